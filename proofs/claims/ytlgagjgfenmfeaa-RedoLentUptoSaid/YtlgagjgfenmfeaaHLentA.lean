/- Several texts of this seat laid together: HApL, HApW, HApC, HLent, HLentB, HLentW. -/
import Derived.Test.YtlgagjgfenmfeaaWWords
import Derived.Test.YtlgagjgfenmfeaaWMore
import Derived.OwnWalk
import Derived.Laws.Pointers
import Derived.Test.YtlgagjgfenmfeaaHCore
import Derived.Test.YtlgagjgfenmfeaaPRedx0
import Derived.Deep.LoopGhost
import Derived.Test.YtlgagjgfenmfeaaHGiv
import Derived.Test.YtlgagjgfenmfeaaHWrites
import Derived.StillTailTactics
import Derived.Deep.RegionHeld3
/- Lists that are written full and made longer, each in its own memory: what stands meanwhile, for elements of any flat kind. -/
set_option linter.unusedVariables false
set_option linter.unusedSimpArgs false
namespace Go.Proofs.Ytlgagjgfenmfeaa.HAp
open Go.RowKit Go.Proofs.YtlgagjgfenmfeaaW.PrintWords Go.Proofs.YtlgagjgfenmfeaaW.PrintLast Go.Proofs.YtlgagjgfenmfeaaW.PrintMore Go.Proofs.Ytlgagjgfenmfeaa.HCore

/-- A slice as it stands in a cell. -/
structure En where
  A : Option Addr
  n : Nat
  c : Nat
def enV (e : En) : Value := .slice e.A e.n e.c
theorem en1 (e : En) : (enV e).oneCell' = true := rfl
abbrev kEn : Kd En := Kd.scalar enV en1
/-- Elements that lead nowhere: what they are does not hang on the world. -/
structure Flat {α : Type} (k : Kd α) : Prop where
  K : ∀ {w w' : World} {x : α} {cs : List Value}, k.K w x cs → k.K w' x cs
  M : ∀ {w w' : World} {base base' : Nat} {ok ok' : Nat → Prop} {x : α} {cs : List Value}, k.M w base ok x cs → k.M w' base' ok' x cs
  E : k.E = []
  sz : 0 < k.sz
section
variable {α : Type} {k : Kd α} {tX tS : TypeId}
theorem add_blk (a : Addr) (n : Nat) : (a.add n).block = a.block := by unfold Addr.add; split <;> rfl
theorem C_stays (hf : Flat k) {W W' : World} {A : Option Addr} {n : Nat} {xs : List α} (h : Kd.C k W A n xs) (hb : ∀ ad, A = some ad → 0 < n → W'.heap[ad.block]? = W.heap[ad.block]?) : Kd.C k W' A n xs := by
  refine ⟨h.1, h.2.1, fun hn => ?_⟩
  obtain ⟨ad, e, hc⟩ := h.2.2 hn
  refine ⟨ad, e, fun j p hj => ?_⟩
  obtain ⟨c, h1, h2, h3⟩ := hc j p hj
  exact ⟨_, h1, hf.K h2, fun i u hu => (World.cell?_of_block (a := ad.add (j * k.sz + i)) (by rw [add_blk]; exact hb ad e hn)).trans (h3 i u hu)⟩
theorem C_lt (hf : Flat k) {W : World} {A : Option Addr} {n : Nat} {xs : List α} (h : Kd.C k W A n xs) (hn : 0 < n) : ∀ c b, (Value.slice A n c).ownBlock = some b → b < W.heap.size := by
  intro c b hb
  obtain ⟨ad, e, hc⟩ := h.2.2 hn
  have hl := h.1
  obtain ⟨p, hp⟩ : ∃ p, xs[0]? = some p := ⟨_, List.getElem?_eq_getElem (by omega)⟩
  obtain ⟨cs, h1, h2, h3⟩ := hc 0 p hp
  have hcs : cs.length = k.sz := h1
  have hsz := hf.sz
  obtain ⟨u, hu⟩ : ∃ u, cs[0]? = some u := ⟨_, List.getElem?_eq_getElem (by omega)⟩
  have h4 := h3 0 u hu
  have h5 := World.block_lt_of_cell? W _ h4
  subst e
  have hbb : ad.block = b := by simpa [Value.ownBlock] using hb
  rw [add_blk, hbb] at h5
  exact h5
theorem R_but (hf : Flat k) {W : World} {base : Nat} {v : Value} {xs : List α} {ok ok' : Nat → Prop} (h : Kd.R k tX W base ok v xs) (hk : ∀ b, v.ownBlock = some b → ok' b) : Kd.R k tX W base ok' v xs :=
  ⟨hk, h.2.imp_ (fun p cs hp => hf.M hp)⟩
theorem own_form {W : World} {base n c : Nat} {A : Option Addr} {xs : List α} {ok : Nat → Prop} (h : Kd.R k tX W base ok (.slice A n c) xs) : (A = none ∧ n = 0 ∧ c = 0) ∨ ∃ g, A = some ⟨g, 0, none⟩ := by
  obtain ⟨_, inner, ho, _⟩ := h
  rcases ho.2 with ⟨hv, _⟩ | ⟨g, cap, cur, hv, _⟩
  · injection hv with h1 h2 h3
    exact Or.inl ⟨h1, h2, h3⟩
  · injection hv with h1 _ _
    exact Or.inr ⟨g, h1⟩
theorem get_lt {β : Type} {l : List β} {j : Nat} {x : β} (h : l[j]? = some x) : j < l.length := (List.getElem?_eq_some_iff.1 h).1
abbrev Apart (es : List En) : Prop := es.Pairwise fun e e' => ∀ b, (enV e).ownBlock = some b → (enV e').ownBlock ≠ some b
theorem pair_ne {es : List En} (h : Apart es) {i j : Nat} {e e' : En} (hi : es[i]? = some e) (hj : es[j]? = some e') (hne : i ≠ j) : ∀ b, (enV e).ownBlock = some b → (enV e').ownBlock ≠ some b := by
  intro b hb hb'
  obtain ⟨h1, rfl⟩ := List.getElem?_eq_some_iff.1 hi
  obtain ⟨h2, rfl⟩ := List.getElem?_eq_some_iff.1 hj
  rcases Nat.lt_or_gt_of_ne hne with h3 | h3
  · exact List.pairwise_iff_getElem.1 h i j h1 h2 h3 b hb hb'
  · exact List.pairwise_iff_getElem.1 h j i h2 h1 h3 b hb' hb
/-- Element i of a row of slices. -/
theorem at_En {W : World} {A : Option Addr} {n : Nat} {es : List En} (h : Kd.C kEn W A n es) (i : Nat) (z : Int) (hz : z = (i : Int)) (e : En) (he : es[i]? = some e) : ∃ ad, A = some ad ∧ W.cell? (ad.add z.toNat) = some (enV e) := by
  have hi := get_lt he
  have hn : n = es.length := h.1.symm
  obtain ⟨ad, c, e1, _, hK, hc0⟩ := Kd.C_get h ⟨none, 0, 0⟩ z (by omega) (by omega)
  have h1 : es.getD z.toNat ⟨none, 0, 0⟩ = e := by
    rw [List.getD_eq_getElem?_getD, show z.toNat = i by omega, he]
    rfl
  rw [h1] at hK
  obtain rfl : c = [enV e] := hK
  refine ⟨ad, e1, ?_⟩
  have := hc0 0 (enV e) rfl
  have h2 : z.toNat * kEn.sz + 0 = z.toNat := Nat.mul_one _
  rwa [h2] at this

/-- While the lists are written full: those ahead of i bear their marks. -/
structure A1 (k : Kd α) (tX tS : TypeId) (base : Nat) (w0 W : World) (kv : Value) (es : List En) (mk : Nat → α) (i : Nat) : Prop where
  bel : Below base w0 W
  row : Kd.R kEn tS W base (fun _ => True) kv es
  apart : Apart es
  own : ∀ j e, es[j]? = some e → ∃ xs : List α, xs.length = e.n ∧ Kd.R k tX W base (fun _ => True) (enV e) xs ∧ (j < i → xs = List.replicate e.n (mk j))
  keep : ∀ b, b < w0.heap.size → (∀ e ∈ es, (enV e).ownBlock ≠ some b) → W.heap[b]? = w0.heap[b]?
theorem A1.below {base : Nat} {w0 W W' : World} {kv : Value} {es : List En} {mk : Nat → α} {i : Nat} (h : A1 k tX tS base w0 W kv es mk i) (hB : base ≤ W.heap.size) (hb : Below W.heap.size W W') : A1 k tX tS base w0 W' kv es mk i :=
  ⟨below_then h.bel hB hb, Kd.R_below h.row hb, h.apart, fun j e he => by
    obtain ⟨xs, h1, h2, h3⟩ := h.own j e he
    exact ⟨xs, h1, Kd.R_below h2 hb, h3⟩, fun b hlt hn => (hb.block b (Nat.lt_of_lt_of_le hlt h.bel.size)).trans (h.keep b hlt hn)⟩
theorem A1.step (hf : Flat k) (hne : tS ≠ tX) {base : Nat} {w0 W W' : World} {kv : Value} {es : List En} {mk : Nat → α} {i : Nat} {e : En} (h : A1 k tX tS base w0 W kv es mk i) (he : es[i]? = some e) (hg : W.grownBy W' (enV e).ownBlock) (hb : Below base w0 W')
    (hR : Kd.R k tX W' base (fun _ => True) (enV e) (List.replicate e.n (mk i))) : A1 k tX tS base w0 W' kv es mk (i + 1) := by
  obtain ⟨xs, h1, h2, _⟩ := h.own i e he
  refine ⟨hb, Kd.R_mono (Kd.R_grown (Kd.R_apartR h.row h2 (by intro q hq; rcases List.mem_cons.1 hq with rfl | hq; exact hne; cases hq)) hg (fun _ hk => hk.2)) (fun _ _ => trivial), h.apart, fun j e' he' => ?_, fun b hlt hn => (hg.block b (Nat.lt_of_lt_of_le hlt h.bel.size) (fun h9 => hn e (List.mem_of_getElem? he) h9.symm)).trans (h.keep b hlt hn)⟩
  by_cases hj : j = i
  · subst hj
    obtain rfl : e = e' := Option.some.inj (he.symm.trans he')
    exact ⟨_, List.length_replicate, hR, fun _ => rfl⟩
  · obtain ⟨ys, g1, g2, g3⟩ := h.own j e' he'
    refine ⟨ys, g1, Kd.R_mono (Kd.R_grown (R_but hf (ok' := fun b => some b ≠ (enV e).ownBlock) g2 (fun b hb2 hb3 => pair_ne h.apart he' he hj b hb2 hb3.symm)) hg (fun _ hk => hk)) (fun _ _ => trivial), fun hlt => g3 (by omega)⟩

/-- A list written full, and what it was made longer to. -/
structure Done (k : Kd α) (W : World) (e g : En) (mk mk2 : α) (r : Nat) : Prop where
  gn : g.n = e.n + r
  ec : e.n ≤ e.c
  gc : g.n ≤ g.c
  ce : Kd.C k W e.A e.n (List.replicate e.n mk)
  cg : Kd.C k W g.A g.n (List.replicate e.n mk ++ List.replicate r mk2)
theorem Done.stays (hf : Flat k) {W W' : World} {e g : En} {mk mk2 : α} {r : Nat} (h : Done k W e g mk mk2 r) (h1 : ∀ b, (enV e).ownBlock = some b → W'.heap[b]? = W.heap[b]?) (h2 : ∀ b, (enV g).ownBlock = some b → W'.heap[b]? = W.heap[b]?) : Done k W' e g mk mk2 r :=
  ⟨h.gn, h.ec, h.gc, C_stays hf h.ce (fun ad ha _ => h1 _ (by simp [enV, ha, Value.ownBlock])), C_stays hf h.cg (fun ad ha _ => h2 _ (by simp [enV, ha, Value.ownBlock]))⟩
/-- While the lists are made longer: those from i on are full of their marks and no longer. -/
structure A2 (k : Kd α) (tX tS : TypeId) (base : Nat) (w0 W : World) (H0 : Nat) (kv gv : Value) (es gs : List En) (mk mk2 : Nat → α) (r i : Nat) : Prop where
  bel : Below base w0 W
  h0 : H0 ≤ W.heap.size
  krow : Kd.R kEn tS W base (fun _ => True) kv es
  grow : Kd.R kEn tS W base (fun _ => True) gv gs
  kb : ∀ b, kv.ownBlock = some b → b < H0
  gb : ∀ b, gv.ownBlock = some b → H0 ≤ b
  apart : Apart es
  old : ∀ e ∈ es, ∀ b, (enV e).ownBlock = some b → b < H0
  own : ∀ j e, i ≤ j → es[j]? = some e → Kd.R k tX W base (fun _ => True) (enV e) (List.replicate e.n (mk j))
  done : ∀ (j : Nat) e g, es[j]? = some e → gs[j]? = some g → Done k W e g (mk j) (mk2 j) r
  gblk : ∀ (j : Nat) e g, es[j]? = some e → gs[j]? = some g → ∀ b, (enV g).ownBlock = some b → (enV e).ownBlock = some b ∨ H0 ≤ b
  glt : ∀ g ∈ gs, ∀ b, (enV g).ownBlock = some b → b < W.heap.size ∧ gv.ownBlock ≠ some b
  h00 : w0.heap.size ≤ H0
  keep : ∀ b, b < w0.heap.size → (∀ e ∈ es, (enV e).ownBlock ≠ some b) → W.heap[b]? = w0.heap[b]?
theorem A2.start {base : Nat} {w0 W : World} {kv : Value} {es : List En} {mk mk2 : Nat → α} {r : Nat} (h : A1 k tX tS base w0 W kv es mk es.length) : A2 k tX tS base w0 W W.heap.size kv (.slice none 0 0) es [] mk mk2 r 0 :=
  ⟨h.bel, Nat.le_refl _, h.row, Kd.R_nil _ _ _ _ _, Kd.R_lt h.row, fun b hb => by simp [Value.ownBlock] at hb, h.apart, fun e he b hb => by
      obtain ⟨j, hj, rfl⟩ := List.getElem_of_mem he
      obtain ⟨xs, _, h2, _⟩ := h.own j _ (List.getElem?_eq_getElem hj)
      exact Kd.R_lt h2 b hb,
    fun j e _ he => by
      obtain ⟨xs, _, h2, h3⟩ := h.own j e he
      rw [← h3 (get_lt he)]
      exact h2,
    fun j e g _ hg => by simp at hg, fun j e g _ hg => by simp at hg, (fun g hg => by cases hg), h.bel.size, h.keep⟩
theorem A2.below {base : Nat} {w0 W W' : World} {H0 i r : Nat} {kv gv : Value} {es gs : List En} {mk mk2 : Nat → α} (h : A2 k tX tS base w0 W H0 kv gv es gs mk mk2 r i) (hB : base ≤ W.heap.size) (hb : Below W.heap.size W W') : A2 k tX tS base w0 W' H0 kv gv es gs mk mk2 r i :=
  ⟨below_then h.bel hB hb, Nat.le_trans h.h0 hb.size, Kd.R_below h.krow hb, Kd.R_below h.grow hb, h.kb, h.gb, h.apart, h.old,
    fun j e hj he => Kd.R_below (h.own j e hj he) hb,
    fun j e g he hg => by obtain ⟨a, b, c, d, f⟩ := h.done j e g he hg; exact ⟨a, b, c, Kd.C_below d hb, Kd.C_below f hb⟩, h.gblk,
    fun g hg b hb2 => ⟨Nat.lt_of_lt_of_le (h.glt g hg b hb2).1 hb.size, (h.glt g hg b hb2).2⟩, h.h00, fun b hlt hn => (hb.block b (Nat.lt_of_lt_of_le hlt h.bel.size)).trans (h.keep b hlt hn)⟩
/-- A list that is being made longer: W1 is where it began. -/
structure Lp (k : Kd α) (tX : TypeId) (base : Nat) (w0 W1 W : World) (e : En) (v : Value) (mk mk2 : α) (t : Nat) : Prop where
  bel : Below base w0 W
  size : W1.heap.size ≤ W.heap.size
  keep : ∀ b, b < W1.heap.size → some b ≠ (enV e).ownBlock → W.heap[b]? = W1.heap[b]?
  row : Kd.R k tX W base (fun _ => True) v (List.replicate e.n mk ++ List.replicate t mk2)
  ce : Kd.C k W e.A e.n (List.replicate e.n mk)
  blk : v.ownBlock = (enV e).ownBlock ∨ ∃ b, v.ownBlock = some b ∧ W1.heap.size ≤ b
  form : (e.A = none ∧ e.n = 0) ∨ ∃ g, e.A = some ⟨g, 0, none⟩
  lt : ∀ b, (enV e).ownBlock = some b → b < W1.heap.size
  ec : e.n ≤ e.c
theorem Lp.start {base : Nat} {w0 W : World} {e : En} {mk mk2 : α} (hb : Below base w0 W) (hR : Kd.R k tX W base (fun _ => True) (enV e) (List.replicate e.n mk)) : Lp k tX base w0 W W e (enV e) mk mk2 0 := by
  obtain ⟨r1, r2, r3⟩ := Kd.R_reads' hR
  rw [List.length_replicate] at r3
  refine ⟨hb, Nat.le_refl _, fun _ _ _ => rfl, by simpa using hR, r3, .inl rfl, ?_, Kd.R_lt hR, r2⟩
  rcases own_form hR with ⟨h1, h2, _⟩ | h
  · exact .inl ⟨h1, h2⟩
  · exact .inr h
theorem Lp.more (hf : Flat k) {base : Nat} {w0 W1 W w1 : World} {e : En} {v v1 : Value} {mk mk2 : α} {t : Nat} (h : Lp k tX base w0 W1 W e v mk mk2 t)
    (hr : Kd.R k tX w1 base (fun _ => True) v1 ((List.replicate e.n mk ++ List.replicate t mk2) ++ [mk2])) (hb : Below base w0 w1) (hg : W.grownBy w1 v.ownBlock)
    (hat : v1.ownBlock = v.ownBlock ∨ ((∃ b, v1.ownBlock = some b ∧ W.heap.size ≤ b) ∧ ∀ q, q < W.heap.size → w1.heap[q]? = W.heap[q]?)) : Lp k tX base w0 W1 w1 e v1 mk mk2 (t + 1) := by
  have hsz := h.size
  have e1 : (List.replicate e.n mk ++ List.replicate t mk2) ++ [mk2] = List.replicate e.n mk ++ List.replicate (t + 1) mk2 := by rw [List.append_assoc, List.replicate_succ']
  rw [e1] at hr
  refine ⟨hb, Nat.le_trans hsz hg.size, fun b hlt hne => ?_, hr, ?_, ?_, h.form, h.lt, h.ec⟩
  · refine (hg.block b (Nat.lt_of_lt_of_le hlt hsz) (fun h1 => ?_)).trans (h.keep b hlt hne)
    rcases h.blk with h2 | ⟨b', h2, h3⟩
    · exact hne (h1.trans h2)
    · have : some b = some b' := h1.trans h2
      injection this with this
      omega
  · have hold : (∀ b, (enV e).ownBlock = some b → w1.heap[b]? = W.heap[b]?) → Kd.C k w1 e.A e.n (List.replicate e.n mk) := fun hk => C_stays hf h.ce (fun ad ha _ => hk _ (by simp [enV, ha, Value.ownBlock]))
    rcases hat with hat | ⟨_, hk⟩
    · rcases h.blk with h2 | ⟨b', h2, h3⟩
      · rcases h.form with ⟨ha, hn⟩ | ⟨g, ha⟩
        · exact hold (fun b hb2 => by simp [enV, ha, Value.ownBlock] at hb2)
        · obtain ⟨A', c', ev⟩ := Kd.R_slice hr
          subst ev
          have hlen : (List.replicate e.n mk ++ List.replicate (t + 1) mk2).length = e.n + (t + 1) := by simp
          rcases own_form hr with ⟨_, hz, _⟩ | ⟨g', hA⟩
          · rw [hlen] at hz; omega
          · subst hA
            have hgg : g' = g := by
              have h5 : (Value.slice (some ⟨g', 0, none⟩) (List.replicate e.n mk ++ List.replicate (t + 1) mk2).length c').ownBlock = (enV e).ownBlock := hat.trans h2
              simpa [enV, ha, Value.ownBlock] using h5
            subst hgg
            have h7 := (Kd.R_reads' hr).2.2
            have h8 := Kd.C_take (m := e.n) h7 (by rw [hlen]; omega)
            rw [List.take_left' (List.length_replicate), ← ha, List.length_replicate] at h8
            exact h8
      · refine hold (fun b hb2 => hg.block b (Nat.lt_of_lt_of_le (h.lt b hb2) hsz) (fun h1 => ?_))
        have h6 : some b = some b' := h1.trans h2
        injection h6 with h6
        have := h.lt b hb2
        omega
    · exact hold (fun b hb2 => hk b (Nat.lt_of_lt_of_le (h.lt b hb2) hsz))
  · rcases hat with hat | ⟨⟨b, h1, h2⟩, _⟩
    · rcases h.blk with h2 | ⟨b', h2, h3⟩
      · exact .inl (hat.trans h2)
      · exact .inr ⟨b', hat.trans h2, h3⟩
    · exact .inr ⟨b, h1, Nat.le_trans hsz h2⟩
/-- A list was made longer, and what it was made longer to is not yet laid by. -/
structure Pend (k : Kd α) (W : World) (H0 : Nat) (gv : Value) (e g : En) (mk mk2 : α) (r : Nat) : Prop where
  fin : Done k W e g mk mk2 r
  blk : ∀ b, (enV g).ownBlock = some b → (enV e).ownBlock = some b ∨ H0 ≤ b
  lt : ∀ b, (enV g).ownBlock = some b → b < W.heap.size ∧ gv.ownBlock ≠ some b
theorem A2.mark (hf : Flat k) (hne : tS ≠ tX) {base : Nat} {w0 W W' : World} {H0 i r : Nat} {kv gv v : Value} {es gs : List En} {mk mk2 : Nat → α} {e : En} (h : A2 k tX tS base w0 W H0 kv gv es gs mk mk2 r i) (hl : gs.length = i) (he : es[i]? = some e)
    (hM : Lp k tX base w0 W W' e v (mk i) (mk2 i) r) : ∃ g, v = enV g ∧ A2 k tX tS base w0 W' H0 kv gv es gs mk mk2 r (i + 1) ∧ Pend k W' H0 gv e g (mk i) (mk2 i) r := by
  have hsz : W.heap.size ≤ W'.heap.size := hM.size
  have hR := h.own i e (Nat.le_refl _) he
  obtain ⟨A', c', ev⟩ := Kd.R_slice hM.row
  have hlen : (List.replicate e.n (mk i) ++ List.replicate r (mk2 i)).length = e.n + r := by simp
  rw [hlen] at ev
  subst ev
  obtain ⟨r1, r2, r3⟩ := Kd.R_reads' hM.row
  rw [hlen] at r3
  have hty : ∀ q, q ∈ tS :: kEn.E → q ≠ tX := by intro q hq; rcases List.mem_cons.1 hq with rfl | hq; exact hne; cases hq
  have hko := Kd.R_apartR h.krow hR hty
  have hgo := Kd.R_apartR h.grow hR hty
  have hgR := Kd.R_lt hM.row
  refine ⟨⟨A', e.n + r, c'⟩, rfl, ⟨hM.bel, Nat.le_trans h.h0 hsz, ?_, ?_, h.kb, h.gb, h.apart, h.old, ?_, ?_, h.gblk, fun g hg b hb => ⟨Nat.lt_of_lt_of_le (h.glt g hg b hb).1 hsz, (h.glt g hg b hb).2⟩, h.h00, fun b hlt hn => (hM.keep b (Nat.lt_of_lt_of_le hlt h.bel.size) (fun h9 => hn e (List.mem_of_getElem? he) h9.symm)).trans (h.keep b hlt hn)⟩, ⟨⟨rfl, hM.ec, r2, hM.ce, r3⟩, ?_, fun b hb => ⟨hgR b hb, ?_⟩⟩⟩
  · exact Kd.R_mono (Kd.R_step hko (fun b hk hk2 => hM.keep b hk2 hk.2)) (fun _ _ => trivial)
  · exact Kd.R_mono (Kd.R_step hgo (fun b hk hk2 => hM.keep b hk2 hk.2)) (fun _ _ => trivial)
  · intro j e' hj he'
    exact Kd.R_mono (Kd.R_step (R_but hf (ok' := fun b => some b ≠ (enV e).ownBlock) (h.own j e' (by omega) he') (fun b hk hk2 => pair_ne h.apart he' he (by omega) b hk hk2.symm)) (fun b hk hk2 => hM.keep b hk2 hk)) (fun _ _ => trivial)
  · intro j e' g' he' hg'
    have hj : j < i := by have := get_lt hg'; omega
    refine (h.done j e' g' he' hg').stays hf (fun b hb => hM.keep b ?_ ?_) (fun b hb => hM.keep b (h.glt g' (List.mem_of_getElem? hg') b hb).1 ?_)
    · exact Nat.lt_of_lt_of_le (h.old e' (List.mem_of_getElem? he') b hb) h.h0
    · exact fun hb2 => pair_ne h.apart he' he (by omega) b hb hb2.symm
    · intro hb2
      rcases h.gblk j e' g' he' hg' b hb with h3 | h3
      · exact pair_ne h.apart he' he (by omega) b h3 hb2.symm
      · have := h.old e (List.mem_of_getElem? he) b hb2.symm
        omega
  · intro b hb
    rcases hM.blk with h1 | ⟨b', h1, h2⟩
    · exact Or.inl (h1.symm.trans hb)
    · have h3 : some b' = some b := h1.symm.trans hb
      injection h3 with h3
      subst h3
      exact Or.inr (Nat.le_trans h.h0 h2)
  · intro hg
    rcases hM.blk with h1 | ⟨b', h1, h2⟩
    · have h3 : (enV e).ownBlock = some b := h1.symm.trans hb
      have := h.old e (List.mem_of_getElem? he) b h3
      have := h.gb b hg
      omega
    · have h3 : some b' = some b := h1.symm.trans hb
      injection h3 with h3
      subst h3
      have := Kd.R_lt h.grow _ hg
      omega
theorem A2.push (hf : Flat k) (hne : tS ≠ tX) {base : Nat} {w0 W W' : World} {H0 i r : Nat} {kv gv gv' : Value} {es gs : List En} {mk mk2 : Nat → α} {e g : En} (h : A2 k tX tS base w0 W H0 kv gv es gs mk mk2 r (i + 1)) (hB : base ≤ H0) (hl : gs.length = i) (he : es[i]? = some e) (p : Pend k W H0 gv e g (mk i) (mk2 i) r)
    (hr : Kd.R kEn tS W' base (fun _ => True) gv' (gs ++ [g])) (hb : Below base w0 W') (hg : W.grownBy W' gv.ownBlock) (hat : gv'.ownBlock = gv.ownBlock ∨ ∃ b, gv'.ownBlock = some b ∧ W.heap.size ≤ b) : A2 k tX tS base w0 W' H0 kv gv' es (gs ++ [g]) mk mk2 r (i + 1) := by
  have hin : ∀ (j : Nat) g', (gs ++ [g])[j]? = some g' → gs[j]? = some g' ∨ (j = i ∧ g' = g) := by
    intro j g' hj
    rcases Nat.lt_or_ge j gs.length with h1 | h1
    · exact Or.inl (by rw [List.getElem?_append_left h1] at hj; exact hj)
    · rw [List.getElem?_append_right h1] at hj
      have h2 := get_lt hj
      simp only [List.length_cons, List.length_nil] at h2
      have h3 : j - gs.length = 0 := by omega
      rw [h3] at hj
      simp at hj
      exact Or.inr ⟨by omega, hj.symm⟩
  have hst : ∀ b, b < W.heap.size → gv.ownBlock ≠ some b → W'.heap[b]? = W.heap[b]? := fun b h1 h2 => hg.block b h1 (fun h3 => h2 h3.symm)
  have hel : ∀ e ∈ es, ∀ b, (enV e).ownBlock = some b → W'.heap[b]? = W.heap[b]? := fun e he b hb => hst b (Nat.lt_of_lt_of_le (h.old e he b hb) h.h0) (fun h3 => by have := h.gb b h3; have := h.old e he b hb; omega)
  have hgv : ∀ g b, b < W.heap.size → gv.ownBlock ≠ some b → (enV g).ownBlock = some b → b < W'.heap.size ∧ gv'.ownBlock ≠ some b := fun g b h1 h2 h3 => ⟨Nat.lt_of_lt_of_le h1 hg.size, fun h4 => by
    rcases hat with h5 | ⟨b', h5, h6⟩
    · exact h2 (h5.symm.trans h4)
    · have h7 : some b' = some b := h5.symm.trans h4
      injection h7 with h7
      omega⟩
  refine ⟨hb, Nat.le_trans h.h0 hg.size, ?_, hr, h.kb, ?_, h.apart, h.old, ?_, ?_, ?_, ?_, h.h00, fun b hlt hn => (hst b (Nat.lt_of_lt_of_le hlt h.bel.size) (fun h9 => by have := h.gb b h9; have := h.h00; omega)).trans (h.keep b hlt hn)⟩
  · have hfE : Flat kEn := ⟨fun h => h, fun h => h, rfl, Nat.one_pos⟩
    have hko : Kd.R kEn tS W base (fun q => some q ≠ gv.ownBlock) kv es := R_but hfE h.krow (fun q hk hk2 => by have := h.kb q hk; have := h.gb q hk2.symm; omega)
    exact Kd.R_mono (Kd.R_grown hko hg (fun q hk => hk)) (fun _ _ => trivial)
  · intro b hb2
    rcases hat with h1 | ⟨b', h1, h2⟩
    · exact h.gb b (h1.symm.trans hb2)
    · have h7 : some b' = some b := h1.symm.trans hb2
      injection h7 with h7
      have := h.h0
      omega
  · intro j e' hj he'
    have h2 := h.own j e' hj he'
    exact Kd.R_mono (Kd.R_grown (R_but hf (ok' := fun q => some q ≠ gv.ownBlock) h2 (fun q hk hk2 => by have := h.old e' (List.mem_of_getElem? he') q hk; have := h.gb q hk2.symm; omega)) hg (fun q hk => hk)) (fun _ _ => trivial)
  · intro j e' g' he' hg'
    rcases hin j g' hg' with h1 | ⟨rfl, rfl⟩
    · exact (h.done j e' g' he' h1).stays hf (hel e' (List.mem_of_getElem? he')) (fun b hb => hst b (h.glt g' (List.mem_of_getElem? h1) b hb).1 (h.glt g' (List.mem_of_getElem? h1) b hb).2)
    · have : e = e' := by rw [he] at he'; injection he'
      subst this
      exact p.fin.stays hf (hel e (List.mem_of_getElem? he)) (fun b hb => hst b (p.lt b hb).1 (p.lt b hb).2)
  · intro j e' g' he' hg'
    rcases hin j g' hg' with h1 | ⟨rfl, rfl⟩
    · exact h.gblk j e' g' he' h1
    · have : e = e' := by rw [he] at he'; injection he'
      subst this
      exact p.blk
  · intro g' hg' b hb
    rcases List.mem_append.1 hg' with h1 | h1
    · exact hgv g' b (h.glt g' h1 b hb).1 (h.glt g' h1 b hb).2 hb
    · rcases List.mem_cons.1 h1 with rfl | h1
      · exact hgv _ b (p.lt b hb).1 (p.lt b hb).2 hb
      · cases h1
end
end Go.Proofs.Ytlgagjgfenmfeaa.HAp

/- apartWrites: lists of writes that share no memory are found as their holders left them. -/
set_option linter.unusedVariables false
set_option linter.unusedSimpArgs false
namespace Go.Proofs.Ytlgagjgfenmfeaa.HApW
open Go.RowKit Go.Proofs.Ytlgagjgfenmfeaa.HAp Go.Proofs.Ytlgagjgfenmfeaa.PRed Go.Proofs.YtlgagjgfenmfeaaW.PrintWords Go.Proofs.YtlgagjgfenmfeaaW.PrintLast Go.Proofs.YtlgagjgfenmfeaaW.PrintMore Go.Proofs.Ytlgagjgfenmfeaa.HCore

theorem flatW : Flat k36 := ⟨fun h => by obtain rfl := k36_open h; exact k36_mk _ _, fun h => by obtain rfl := k36_openM h; exact k36_mkM _ _ _ _, rfl, by decide⟩
/-- A mark. -/
def mw (a z : Int) : S36 := ⟨wrap64 (a + z), ⟨#[]⟩, ⟨#[]⟩⟩
theorem store_run {P : Program} {o : Oper} {a : Act} {w w1 : World} {t : TypeId} {x y : Operand} {p v : Value} (ho : o.op = .store t x y) (hx : a.eval x = p) (hy : a.eval y = v) (h : (Instr.storeAt t p v).run P w = .ok () w1) : (execOp a.eval o).run P w = .ok .skip w1 := by
  unfold execOp
  rw [ho]
  simp [hx, hy, h]
/-- Element i of the call's own row is written whole. -/
theorem putW {W : World} {base g n c : Nat} {xs : List S36} (h : Kd.R k36 36 W base (fun _ => True) (.slice (some ⟨g, 0, none⟩) n c) xs) (i : Nat) (hi : i < n) (x : S36) :
    Kd.R k36 36 (W.setCells g (i * 3) [.int .i64 x.f0, .string x.f1, .string x.f2]) base (fun _ => True) (.slice (some ⟨g, 0, none⟩) n c) (xs.set i x)
    ∧ W.grownBy (W.setCells g (i * 3) [.int .i64 x.f0, .string x.f1, .string x.f2]) (some g)
    ∧ ∀ (v : Value), v.cells.toList = [.int .i64 x.f0, .string x.f1, .string x.f2] → (Instr.storeAt 36 (.pointer (some ⟨g, i * 3, none⟩)) v).run Try.prog W = .ok () (W.setCells g (i * 3) [.int .i64 x.f0, .string x.f1, .string x.f2]) := by
  obtain ⟨hl, hnc, hC⟩ := Kd.R_reads' h
  obtain ⟨ad, cs, e1, e2, e3, e4⟩ := ReadsRow.get_ hC z36 (i : Int) (by omega) (by omega)
  obtain rfl := Option.some.inj e1
  have hs := Kd.R_seg (okp := fun _ => False) (x' := x) (seg := [.int .i64 x.f0, .string x.f1, .string x.f2]) (j := 0) h (i : Int) (by omega) (by omega) e2 (fun j u hu => by have := e4 j u hu; rwa [add_plain] at this) (show 0 + 3 ≤ 3 by omega) (by
    have e : cs.drop (0 + 3) = [] := List.drop_of_length_le (by rw [e2]; decide)
    show k36.M W base (fun _ => False) x (cs.take 0 ++ [.int .i64 x.f0, .string x.f1, .string x.f2] ++ cs.drop (0 + 3))
    rw [e]
    exact k36_mkM _ _ _ x) (fun _ hk => hk.elim)
  obtain ⟨hr, hg⟩ := hs
  have hz : ((i : Int).toNat * k36.sz + 0) = i * 3 := rfl
  rw [hz] at hr hg
  have hn : xs.set (i : Int).toNat x = xs.set i x := rfl
  rw [hn] at hr
  obtain ⟨_, inner, ho, hri⟩ := h
  obtain ⟨hin, ho2⟩ := ho
  rcases ho2 with ⟨hv, _⟩ | ⟨g', cap', cur, hv, hb, hh, hnc', hcm, hcs, ht⟩
  · cases hv
  injection hv with ha _ hc
  injection ha with ha
  injection ha with hgg
  subst hgg; subst hc
  have hfit : i * 3 + 3 ≤ cur.size := by
    rw [hcs]
    show i * 3 + 3 ≤ c * 3
    omega
  refine ⟨hr, hg, fun v hv => ?_⟩
  exact run_store_run 36 v _ hh hv (by kernel_rfl) hfit (by intro q hq; simp at hq; rcases hq with rfl | rfl | rfl <;> rfl)
theorem set_take {α : Type} (m : α) (xs : List α) (i : Nat) (hi : i < xs.length) : (List.replicate i m ++ xs.drop i).set i m = List.replicate (i + 1) m ++ xs.drop (i + 1) := by
  rw [List.set_append, if_neg (by simp), List.length_replicate, Nat.sub_self, List.drop_eq_getElem_cons hi, List.set_cons_zero, List.replicate_succ', List.append_assoc]
  rfl
/-- append onto one's own row: in its block, or in a new one, and then nothing older is touched. -/
theorem append_keeps {P : Program} {w w' : World} {base : Nat} {t ty e : TypeId} {i : TypeInfo} {z : Value} (ht : P.underlying t = some (.slice e)) (hi : P.info? e = some i) (hz : i.zero = some z)
    {v v' : Value} {n : Nat} {xs : List Value} (hown : w.ownsRow base e i.size v n xs) {a : Addr} {m c : Nat} {news : List Value} (hl : news.length = m * i.size) (hnews : ∀ j u, news[j]? = some u → w.cell? (a.add j) = some u) (h1 : ∀ u ∈ news, u.oneCell' = true)
    (h63 : n + m ≤ maxLen) (hbytes : (n + m) * i.bytes ≤ 140737488355328) (hg : w.grownBy w' v.ownBlock)
    (hr : (Builtin.append_ #[t, t] ty #[v, .slice (some a) m c]).run P w = .ok v' w') : v'.ownBlock = v.ownBlock ∨ ∀ k, k < w.heap.size → w'.heap[k]? = w.heap[k]? := by
  rcases hown.2 with ⟨rfl, rfl⟩ | ⟨g, cap, cur, rfl, hbg, hgg, hnc, hcm, hcs, htake⟩
  · exact Or.inr (fun k hk => hg.block k hk (by simp [Value.ownBlock]))
  · by_cases hroom : n + m ≤ cap
    · have hfit : n * i.size + news.length ≤ cur.size := by rw [hl, hcs, ← Nat.add_mul]; exact Nat.mul_le_mul_right _ hroom
      have hr2 := run_append_room (P := P) w t ty e i ht hi g n cap cur hgg a m c news hl hnews h1 hroom hfit
      rw [hr] at hr2
      injection hr2 with e1 _
      left
      rw [e1]
      rfl
    · have holds : ∀ j u, xs[j]? = some u → w.cell? ((⟨g, 0, none⟩ : Addr).add j) = some u := hown.cells (g := g) rfl
      have hr2 := run_append_grow (P := P) w t ty e i z ht hi hz ⟨g, 0, none⟩ n cap xs hown.1 holds a m c news hl hnews (by omega) (by simp only [maxLen] at h63; omega) (growslice_fits (by omega) hbytes)
      rw [hr] at hr2
      injection hr2 with _ e2
      right
      intro k hk
      rw [e2]
      exact heap_alloc_old w.drew _ hk
section
variable {P : Program} {ops : Array Oper} {rest : List Oper} {o : Oper} {a : Act} {Q : Exit → Act → World → Prop}
theorem append_one_keep {α : Type} (d : Kd α) {w0 W : World} (base : Nat) (hgd : o.guard = none) (s x : Operand) (t e : TypeId) (z : Value) (bytes : Nat)
    (ho : o.op = .call { callee := .builtin .append, args := #[s, x], argTypes := #[t, t] })
    (ht : P.underlying t = some (.slice e)) (hinfo : (P.info? e).map (fun i => (i.zero, i.size, i.bytes)) = some (some z, d.sz, bytes)) (hz : z.cells.size = d.sz) (hs0 : 0 < d.sz) (hb0 : 0 < bytes)
    (v : Value) (xs : List α) (p : α) (cs : List Value) (hs : a.eval s = v) (hx : a.eval x = .slice (some ⟨W.heap.size, 0, none⟩) 1 1) (hp : d.M W base (fun _ => False) p cs)
    (HO : d.R e W base (fun _ => True) v xs) (HB : Below base w0 W) (hbase : base ≤ W.heap.size) (hl : (xs.length + 1) * bytes ≤ 140737488355328)
    (h : ∀ v1 w1, d.R e w1 base (fun _ => True) v1 (xs ++ [p]) → Below base w0 w1 → W.grownBy w1 v.ownBlock → (v1.ownBlock = v.ownBlock ∨ ((∃ b, v1.ownBlock = some b ∧ W.heap.size ≤ b) ∧ ∀ k, k < W.heap.size → w1.heap[k]? = W.heap[k]?)) → wpList P ops Q rest (a.put o.dst v1) w1) :
    wpList P ops Q (o :: rest) a (W.alloc (.cells cs.toArray e)) := by
  obtain ⟨h0, inner, hown, hr⟩ := HO
  obtain ⟨i0, hi, hzz⟩ := Option.map_eq_some_iff.1 hinfo
  simp only [Prod.mk.injEq] at hzz
  obtain ⟨hz0, hz1, hz2⟩ := hzz
  have hlen : xs.length + 1 ≤ 140737488355328 := Nat.le_trans (Nat.le_mul_of_pos_right _ hb0) hl
  have hcs : cs.length = d.sz := d.K_len (d.K_of_M hp)
  have hone := d.K_one (d.K_of_M hp)
  have hnews : ∀ j u, cs[j]? = some u → (W.alloc (.cells cs.toArray e)).cell? ((⟨W.heap.size, 0, none⟩ : Addr).add j) = some u := by
    simpa using World.news_of_block (cs := cs.toArray) (t := e) (fr := (0, 0)) (heap_alloc_new W (.cells cs.toArray e))
  have hown2 : (W.alloc (.cells cs.toArray e)).ownsRow base e d.sz v xs.length inner := World.ownsRow.alloc hown _
  obtain ⟨v1, w1, hrun, hown1, hg1, _, hat⟩ := run_append_own_at (P := P) (W.alloc (.cells cs.toArray e)) base t o.type e i0 z d.sz bytes ht hi hz0 hz1 hz2 hz hs0 v xs.length inner hown2 ⟨W.heap.size, 0, none⟩ 1 1 cs (by rw [hcs]; simp) hnews hone (by simp only [maxLen]; omega) hl (by simp; omega)
  have hk := append_keeps ht hi hz0 (by rw [hz1]; exact hown2) (m := 1) (by rw [hcs, hz1]; simp) hnews hone (by simp only [maxLen]; omega) (by rw [hz2]; exact hl) hg1 hrun
  have hgW : W.grownBy w1 v.ownBlock := World.grownBy.trans (World.grownBy_alloc W _ _) hg1
  have hat1 : v1.ownBlock = v.ownBlock ∨ ∃ b, v1.ownBlock = some b ∧ W.heap.size ≤ b := by
    rcases hat with hat | hat
    · exact .inl hat
    · exact .inr ⟨_, hat, by simp⟩
  have hat2 : v1.ownBlock = v.ownBlock ∨ ((∃ b, v1.ownBlock = some b ∧ W.heap.size ≤ b) ∧ ∀ k, k < W.heap.size → w1.heap[k]? = W.heap[k]?) := by
    rcases hk with hk | hk
    · exact .inl hk
    · rcases hat1 with h1 | h1
      · exact .inl h1
      · exact .inr ⟨h1, fun k hkk => (hk k (by simp; omega)).trans (heap_alloc_old W _ hkk)⟩
  refine wpList_plain hgd fun K hK => ?_
  unfold Oper.wp execOp
  simp only [ho, resolve, invoke, builtin, Sem.run_bind, Sem.run_pure, Result.andThen_ok, List.map_toArray, List.map_cons, List.map_nil, hs, hx, hrun]
  exact hK _ _ (h v1 w1 (Kd.R_appended h0 hr hp (fun _ hk => hk.elim) (fun _ _ => trivial) hown1 hgW hat1) ((HB.alloc hbase _).grown hg1 (by simp; omega) (own_base hown)) hgW hat2)
end
theorem infoW : (Try.prog.info? 36).map (fun i => (i.zero, i.size, i.bytes)) = some (some (.agg #[.int .i64 0, .string ⟨#[]⟩, .string ⟨#[]⟩]), 3, 40) := by kernel_rfl
theorem infoS : (Try.prog.info? 23).map (fun i => (i.zero, i.size, i.bytes)) = some (some (.slice none 0 0), 1, 24) := by kernel_rfl

set_option maxRecDepth 100000 in
set_option maxHeartbeats 8000000 in
theorem apart_any (base : Nat) (kv : Value) (es : List En) (w : World) (hb0 : Aside0 (base ≤ w.heap.size)) (HL : Aside0 (es.length ≤ 2000000000002)) (HN : Aside0 (∀ e ∈ es, e.n ≤ 1000000000000)) (HA : Aside0 (A1 k36 36 23 base w w kv es (fun i => mw 7000 i) 0)) :
    Calls Try.prog 17 #[kv] w fun e w' => e = .returned (.bool true) ∧ Below base w w' ∧ ∀ b, b < w.heap.size → (∀ e ∈ es, (enV e).ownBlock ≠ some b) → w'.heap[b]? = w.heap[b]? := by
  obtain ⟨Ak, ck, hv⟩ := Kd.R_slice HA.out.row
  subst hv
  go_enter Try.func17, Try.ntmps17
  go_wp2
  go_loopg [4] (es.length + 1) (fun gk v4 wr => ∃ (i : Nat) (z : Int), v4 = .int .i64 z ∧ Aside0 (z = (i : Int) ∧ i ≤ es.length ∧ es.length < i + gk) ∧ Aside0 (A1 k36 36 23 base w wr (.slice Ak es.length ck) es (fun i => mw 7000 i) i))
  case atStart => exact ⟨0, _, rfl, ⟨rfl, by omega, by omega⟩, HA⟩
  case round =>
    clear HA
    obtain ⟨i, z, rfl, HI, HA⟩ := hrel
    obtain ⟨gko, hgo⟩ : ∃ x, x = gk := ⟨gk, rfl⟩
    obtain ⟨wo, hwo⟩ : ∃ x, x = wr := ⟨wr, rfl⟩
    subst gk
    subst wr
    by_cases hz : z < (es.length : Int)
    · have d0 : decide (z < (es.length : Int)) = true := decide_eq_true hz
      have HZ := Aside0.mk hz
      have q0 : (z < (es.length : Int)) = True := eq_true hz
      have p0 : (0 ≤ z) = True := eq_true (by have := HI.out; omega)
      obtain ⟨⟨eA, en, ec⟩, he⟩ : ∃ e, es[i]? = some e := ⟨_, List.getElem?_eq_getElem (by have := HI.out; omega)⟩
      have HEI := Aside0.mk he
      have hnn : en ≤ 1000000000000 := HN.out _ (List.mem_of_getElem? he)
      have HNN := Aside0.mk hnn
      obtain ⟨xs, hxs, hR, _⟩ := HA.out.own i _ he
      have HX : Aside0 (xs.length = en) := ⟨hxs⟩
      have HR : Aside0 (Kd.R k36 36 wo base (fun _ => True) (.slice eA en ec) (List.replicate 0 (mw 7000 z) ++ xs.drop 0)) := ⟨hR⟩
      have HG : Aside0 (wo.grownBy wo (Value.slice eA en ec).ownBlock) := ⟨⟨rfl, rfl, rfl, Nat.le_refl _, fun _ _ _ => rfl⟩⟩
      have HK := Aside0.mk HA.out.row
      have HB := Aside0.mk HA.out.bel
      clear hz he hnn hxs hR
      go_wp2
      go_loopg [5] (en + 1) (fun gk v5 wr => ∃ (m : Nat) (y : Int), v5 = .int .i64 y ∧ Aside0 (y = (m : Int) ∧ m ≤ en ∧ en < m + gk) ∧ Aside0 (Kd.R k36 36 wr base (fun _ => True) (.slice eA en ec) (List.replicate m (mw 7000 z) ++ xs.drop m)) ∧ Aside0 (wo.grownBy wr (Value.slice eA en ec).ownBlock) ∧ Aside0 (Kd.R kEn 23 wr base (fun _ => True) (.slice Ak es.length ck) es) ∧ Aside0 (Below base w wr))
      case atStart => exact ⟨0, _, rfl, ⟨rfl, by omega, by omega⟩, HR, HG, HK, HB⟩
      case round =>
        clear HR HG HK HB
        obtain ⟨m, y, rfl, HY, HR, HG, HK, HB⟩ := hrel
        obtain ⟨ad, hA, hx0⟩ := at_En (Kd.R_reads' HK.out).2.2 i z HI.out.1 _ HEI.out
        cases hA
        have hx : World.cell? _ (ad.add z.toNat) = some (Value.slice eA en ec) := hx0
        clear hx0
        by_cases hy : y < (en : Int)
        · have d1 : decide (y < (en : Int)) = true := decide_eq_true hy
          have HYY := Aside0.mk hy
          have q1 : (y < (en : Int)) = True := eq_true hy
          have p1 : (0 ≤ y) = True := eq_true (by have := HY.out; omega)
          obtain ⟨g, hg⟩ : ∃ g, eA = some ⟨g, 0, none⟩ := by
            rcases own_form HR.out with ⟨_, h2, _⟩ | h
            · have := HY.out; omega
            · exact h
          subst hg
          obtain ⟨r1, r2, r3⟩ := putW HR.out m (by have := HY.out; omega) (mw 7000 z)
          rw [set_take _ _ m (by have := HY.out; have := HX.out; omega)] at r1
          have HQ1 := Aside0.mk r1
          have HQ2 := Aside0.mk r2
          have HQ3 := Aside0.mk r3
          have hz3 : y.toNat = m := by have := HY.out; omega
          clear r1 r2 r3 hy
          go_wp2_with (first | ((with_reducible refine gate_store (t := 36) (p := 35) rfl ?_); go_loud (refine store_event (t := 36) (p := 35) (v := ?vo) (w1 := wr.setCells g (m * 3) [.int .i64 (mw 7000 z).f0, .string (mw 7000 z).f1, .string (mw 7000 z).f2]) ?hg ?ho ?hn ?hr ?_; (case ho => rfl); (case hg => rfl); (case hn => rfl); (case hr => exact store_run rfl (by first | rfl | (go_simp; done) | (go_simp; rfl)) (by rfl) (HQ3.out _ (by rfl))); intro w6 hw; rw [← hw] at HQ1 HQ2; have HGB : Aside0 (base ≤ g) := ⟨Kd.R_base HR.out g rfl⟩; have HK := Aside0.mk (Kd.R_mono (Kd.R_grown (Kd.R_apartR HK.out HR.out (by decide)) (show wr.grownBy w6 (Value.slice (some ⟨g, 0, none⟩) en ec).ownBlock from HQ2.out) (fun _ hk => hk.2)) (fun _ _ => trivial)); have HG := Aside0.mk (World.grownBy.trans HG.out (show wr.grownBy w6 (Value.slice (some ⟨g, 0, none⟩) en ec).ownBlock from HQ2.out)); have HB := Aside0.mk (HB.out.grown HQ2.out (Nat.le_trans hb0.out HB.out.size) (fun k hk => by injection hk with hk; rw [← hk]; exact HGB.out)); clear hw)))
          cases gk with
          | zero => exact absurd HY.out.2.2 (by have := HY.out; have := HYY.out; omega)
          | succ k2 =>
          go_roundg k2
          case measure => omega
          case rel => exact ⟨m + 1, _, rfl, ⟨by have := HY.out; have := HYY.out; have := HNN.out; refine ⟨(w64 (by omega) (by omega)).trans (by omega), by omega, by omega⟩⟩, HQ1, HG, HK, HB⟩
        · have d1 : decide (y < (en : Int)) = false := decide_eq_false hy
          have hm : m = en := by have := HY.out; omega
          have hA2 := HA.out.step flatW (by decide) HEI.out HG.out HB.out (by
            have h1 := HR.out
            have h2 : xs.drop m = [] := List.drop_of_length_le (by have := HX.out; omega)
            rw [h2, List.append_nil, hm, HI.out.1] at h1
            exact h1)
          have HA := Aside0.mk hA2
          clear hA2 hm hy HR HG HK HB HY
          go_wp2
          cases gko with
          | zero => exact absurd HI.out.2.2 (by have := HI.out; have := HZ.out; omega)
          | succ k =>
          go_roundg k
          case measure => omega
          case rel => exact ⟨i + 1, _, rfl, ⟨by have := HI.out; have := HZ.out; have := HL.out; refine ⟨(w64 (by omega) (by omega)).trans (by omega), by omega, by omega⟩⟩, HA⟩
    · have d0 : decide (z < (es.length : Int)) = false := decide_eq_false hz
      have hin : i = es.length := by have := HI.out; omega
      rw [hin] at HA
      obtain ⟨H0, hH0⟩ : ∃ H0, H0 = wo.heap.size := ⟨_, rfl⟩
      have HQ : Aside0 (A2 k36 36 23 base w wo H0 (.slice Ak es.length ck) (.slice none 0 0) es [] (fun i => mw 7000 i) (fun i => mw 9000 i) 20 0) := ⟨by rw [hH0]; exact A2.start HA.out⟩
      have HH0 : Aside0 (base ≤ H0) := ⟨by rw [hH0]; exact Nat.le_trans hb0.out HA.out.bel.size⟩
      clear hz HI HA hin hH0
      go_wp2
      go_loopg [3, 6] (es.length + 1) (fun gk v3 v6 wr => ∃ (i : Nat) (z : Int) (gs : List En), v6 = .int .i64 z ∧ Aside0 (z = (i : Int) ∧ i ≤ es.length ∧ es.length < i + gk ∧ gs.length = i) ∧ Aside0 (A2 k36 36 23 base w wr H0 (.slice Ak es.length ck) v3 es gs (fun i => mw 7000 i) (fun i => mw 9000 i) 20 i))
      case atStart => exact ⟨0, _, [], rfl, ⟨rfl, by omega, by omega, rfl⟩, HQ⟩
      case round =>
        clear HQ
        obtain ⟨i, z, gs, rfl, HI, HQ⟩ := hrel
        obtain ⟨gko, hgo⟩ : ∃ x, x = gk := ⟨gk, rfl⟩
        obtain ⟨wo, hwo⟩ : ∃ x, x = wr := ⟨wr, rfl⟩
        subst gk
        subst wr
        by_cases hz : z < (es.length : Int)
        · have d0 : decide (z < (es.length : Int)) = true := decide_eq_true hz
          have HZ := Aside0.mk hz
          have q0 : (z < (es.length : Int)) = True := eq_true hz
          have p0 : (0 ≤ z) = True := eq_true (by have := HI.out; omega)
          obtain ⟨⟨eA, en, ec⟩, he⟩ : ∃ e, es[i]? = some e := ⟨_, List.getElem?_eq_getElem (by have := HI.out; omega)⟩
          obtain ⟨ad, hA, hx0⟩ := at_En (Kd.R_reads' HQ.out.krow).2.2 i z HI.out.1 _ he
          cases hA
          have hx : World.cell? _ (ad.add z.toNat) = some (Value.slice eA en ec) := hx0
          have HEI := Aside0.mk he
          have HNN : Aside0 (en ≤ 1000000000000) := ⟨HN.out _ (List.mem_of_getElem? he)⟩
          have HP : Aside0 (Lp k36 36 base w _ _ (⟨eA, en, ec⟩ : En) (.slice eA en ec) (mw 7000 i) (mw 9000 i) 0) := ⟨Lp.start HQ.out.bel (HQ.out.own i _ (Nat.le_refl _) he)⟩
          clear hz he hx0
          go_wp2
          go_loopg [7, 8] 21 (fun gk v7 v8 wr => ∃ (t : Nat) (y : Int), v8 = .int .i64 y ∧ Aside0 (y = (t : Int) ∧ t ≤ 20 ∧ 20 < t + gk) ∧ Aside0 (Lp k36 36 base w wo wr (⟨eA, en, ec⟩ : En) v7 (mw 7000 i) (mw 9000 i) t))
          case atStart => exact ⟨0, _, rfl, ⟨rfl, by omega, by omega⟩, HP⟩
          case round =>
            clear HP
            obtain ⟨t, y, rfl, HY, HP⟩ := hrel
            by_cases hy : y < 20
            · have d1 : decide (y < 20) = true := decide_eq_true hy
              have HYY := Aside0.mk hy
              clear hy hx
              go_wp2_with (first | ((with_reducible refine gate_builtin (b := .append) (xs := #[.tmp 50, .tmp 54]) rfl ?_); go_loud (at_builtin; refine append_one_keep k36 (w0 := w) base rfl (.tmp 50) (.tmp 54) 23 36 (.agg #[(.int .i64 0), (.string ⟨#[]⟩), (.string ⟨#[]⟩)]) 40 rfl Try.underlying23 infoW rfl (by decide) (by decide) _ (List.replicate en (mw 7000 i) ++ List.replicate t (mw 9000 i)) (mw 9000 z) [.int .i64 (mw 9000 z).f0, .string ⟨#[]⟩, .string ⟨#[]⟩] rfl (by first | (go_simp; done) | (go_simp; rfl)) ?aP ?aO ?aB ?aS ?aL ?_; (case aP => exact k36_mkM _ _ _ (mw 9000 z)); (case aO => exact HP.out.row); (case aB => exact HP.out.bel); (case aS => exact Nat.le_trans hb0.out HP.out.bel.size); (case aL => rw [List.length_append, List.length_replicate, List.length_replicate]; have := HNN.out; have := HY.out; omega); intro v9 w9 ho hbb hg hat; rw [HI.out.1] at ho; have HP := Aside0.mk (HP.out.more flatW ho hbb hg hat); clear ho hbb hg hat)))
              cases gk with
              | zero => exact absurd HY.out.2.2 (by have := HY.out; have := HYY.out; omega)
              | succ k2 =>
              go_roundg k2
              case measure => omega
              case rel => exact ⟨t + 1, _, rfl, ⟨by have := HY.out; have := HYY.out; refine ⟨(w64 (by omega) (by omega)).trans (by omega), by omega, by omega⟩⟩, HP⟩
            · have d1 : decide (y < 20) = false := decide_eq_false hy
              have ht : t = 20 := by have := HY.out; omega
              rw [ht] at HP
              obtain ⟨⟨gA, gn, gc⟩, hv7, hq, hp⟩ := HQ.out.mark flatW (by decide) HI.out.2.2.2 HEI.out HP.out
              have hv8 : _ = Value.slice gA gn gc := hv7
              subst hv8
              have HQ := Aside0.mk hq
              have HPE := Aside0.mk hp
              clear hq hp hv7 ht hy HP HY hx
              go_wp2_with (first | ((with_reducible refine gate_builtin (b := .append) (xs := #[.tmp 56, .tmp 58]) rfl ?_); go_loud (at_builtin; refine Kd.R_append kEn (w0 := w) base rfl (.tmp 56) (.tmp 58) 48 23 (.slice none 0 0) 24 rfl Try.underlying48 infoS rfl (by decide) (by decide) _ gs (⟨gA, gn, gc⟩ : En) [.slice gA gn gc] (fun _ => True) (fun _ => False) rfl (by first | (go_simp; done) | (go_simp; rfl)) ?aP (fun _ hk => hk.elim) ?aF ?aO ?aB ?aS ?aL ?_; (case aP => exact rfl); (case aF => exact (fun _ _ => trivial)); (case aO => exact HQ.out.grow); (case aB => exact HQ.out.bel); (case aS => exact Nat.le_trans hb0.out HQ.out.bel.size); (case aL => have h9 := HI.out; have := HL.out; omega); intro v9 w9 ho hb hg hat; have HQ := Aside0.mk (HQ.out.push flatW (by decide) HH0.out HI.out.2.2.2 HEI.out HPE.out ho hb hg hat); clear ho hb hg hat)))
              cases gko with
              | zero => exact absurd HI.out.2.2.1 (by have := HI.out; have := HZ.out; omega)
              | succ k =>
              go_roundg k
              case measure => omega
              case rel => exact ⟨i + 1, _, gs ++ [⟨gA, gn, gc⟩], rfl, ⟨by have := HI.out; have := HZ.out; have := HL.out; refine ⟨(w64 (by omega) (by omega)).trans (by omega), by omega, by omega, by rw [List.length_append]; simp only [List.length_cons, List.length_nil]; omega⟩⟩, HQ⟩
        · have d0 : decide (z < (es.length : Int)) = false := decide_eq_false hz
          have hlg : gs.length = es.length := by have := HI.out; omega
          have hie : i = es.length := by have := HI.out; omega
          obtain ⟨Ag, cg, hv3⟩ := Kd.R_slice HQ.out.grow
          subst hv3
          have HLG := Aside0.mk hlg
          rw [hie, hlg] at HQ
          clear hz HI hie
          go_wp2
          rw [hlg]
          clear hlg
          go_loopg [9] (es.length + 1) (fun gk v9 wr => ∃ (i : Nat) (z : Int), v9 = .int .i64 z ∧ Aside0 (z = (i : Int) ∧ i ≤ es.length ∧ es.length < i + gk) ∧ Aside0 (A2 k36 36 23 base w wr H0 (.slice Ak es.length ck) (.slice Ag es.length cg) es gs (fun i => mw 7000 i) (fun i => mw 9000 i) 20 es.length))
          case atStart => exact ⟨0, _, rfl, ⟨rfl, by omega, by omega⟩, HQ⟩
          case round =>
            clear HQ
            obtain ⟨i, z, rfl, HI, HQ⟩ := hrel
            obtain ⟨gko, hgo⟩ : ∃ x, x = gk := ⟨gk, rfl⟩
            obtain ⟨wo, hwo⟩ : ∃ x, x = wr := ⟨wr, rfl⟩
            subst gk
            subst wr
            by_cases hz : z < (es.length : Int)
            · have d0 : decide (z < (es.length : Int)) = true := decide_eq_true hz
              have HZ := Aside0.mk hz
              have q0 : (z < (es.length : Int)) = True := eq_true hz
              have p0 : (0 ≤ z) = True := eq_true (by have := HI.out; omega)
              obtain ⟨⟨eA, en, ec⟩, he⟩ : ∃ e, es[i]? = some e := ⟨_, List.getElem?_eq_getElem (by have := HI.out; omega)⟩
              obtain ⟨⟨gA, gn, gc⟩, hge⟩ : ∃ e, gs[i]? = some e := ⟨_, List.getElem?_eq_getElem (by have := HI.out; have := HLG.out; omega)⟩
              obtain ⟨ad, hA, hx0⟩ := at_En (Kd.R_reads' HQ.out.krow).2.2 i z HI.out.1 _ he
              cases hA
              have hx : World.cell? _ (ad.add z.toNat) = some (Value.slice eA en ec) := hx0
              have hgn : gn = en + 20 := (HQ.out.done i _ _ he hge).gn
              subst hgn
              have HEI := Aside0.mk he
              have HGI := Aside0.mk hge
              have HNN : Aside0 (en ≤ 1000000000000) := ⟨HN.out _ (List.mem_of_getElem? he)⟩
              clear hz he hge hx0
              go_wp2
              go_loopg [11] (en + 21) (fun gk v11 wr => ∃ (m : Nat) (y : Int), v11 = .int .i64 y ∧ Aside0 (y = (m : Int) ∧ m ≤ en + 20 ∧ en + 20 < m + gk) ∧ Aside0 (A2 k36 36 23 base w wr H0 (.slice (some ad) es.length ck) (.slice Ag es.length cg) es gs (fun i => mw 7000 i) (fun i => mw 9000 i) 20 es.length))
              case atStart => exact ⟨0, _, rfl, ⟨rfl, by omega, by omega⟩, HQ⟩
              case round =>
                clear HQ hx
                obtain ⟨m, y, rfl, HY, HQ⟩ := hrel
                have hw20 : wrap64 ((en : Int) + 20) = (en : Int) + 20 := w64 (by omega) (by have := HNN.out; omega)
                have HW20 := Aside0.mk hw20
                by_cases hy : y < (en : Int) + 20
                · have d1 : decide (y < wrap64 ((en : Int) + 20)) = true := by rw [hw20]; exact decide_eq_true hy
                  have HYY := Aside0.mk hy
                  have p1 : (0 ≤ y) = True := eq_true (by have := HY.out; omega)
                  have HD := Aside0.mk (HQ.out.done i _ _ HEI.out HGI.out)
                  obtain ⟨ad0, hA, hx0⟩ := at_En (Kd.R_reads' HQ.out.krow).2.2 i z HI.out.1 _ HEI.out
                  cases hA
                  have hx : World.cell? _ (ad.add z.toNat) = some (Value.slice eA en ec) := hx0
                  clear hx0 hw20
                  by_cases hyn : y < (en : Int)
                  · have d2 : decide (y < (en : Int)) = true := decide_eq_true hyn
                    have d3 : decide ((en : Int) ≤ y) = false := decide_eq_false (by omega)
                    have q1 : (y < (en : Int)) = True := eq_true hyn
                    obtain ⟨a1, e1, x0, x1, x2⟩ := at_T36 HD.out.ce y (by have := HY.out; omega) hyn
                    have hrd : rd_T36 (List.replicate en (mw 7000 i)) y = mw 7000 z := by
                      unfold rd_T36
                      rw [List.getD_eq_getElem?_getD, List.getElem?_replicate, if_pos (by have := HY.out; omega), HI.out.1]
                      rfl
                    have e2 : eA = some a1 := e1
                    subst e2
                    rw [hrd] at x0 x1 x2
                    have y0 : wr.cell? (a1.add (y.toNat * 3)) = some (Value.int .i64 (wrap64 (7000 + z))) := x0
                    have y1 : wr.cell? ⟨(a1.add (y.toNat * 3)).block, (a1.add (y.toNat * 3)).off + 1, none⟩ = some (Value.string ⟨#[]⟩) := x1
                    have y2 : wr.cell? ⟨(a1.add (y.toNat * 3)).block, (a1.add (y.toNat * 3)).off + 2, none⟩ = some (Value.string ⟨#[]⟩) := x2
                    clear x0 x1 x2 hrd hy hyn e1
                    go_wp2
                    cases gk with
                    | zero => exact absurd HY.out.2.2 (by have := HY.out; have := HYY.out; omega)
                    | succ k =>
                    go_roundg k
                    case measure => omega
                    case rel => exact ⟨m + 1, _, rfl, ⟨by have := HY.out; have := HYY.out; have := HNN.out; refine ⟨(w64 (by omega) (by omega)).trans (by omega), by omega, by omega⟩⟩, HQ⟩
                  · have d2 : decide (y < (en : Int)) = false := decide_eq_false hyn
                    have d3 : decide ((en : Int) ≤ y) = true := decide_eq_true (by omega)
                    have q1 : (y < ((en + 20 : Nat) : Int)) = True := eq_true (by omega)
                    have q2 : (y < (en : Int) + 20) = True := eq_true hy
                    obtain ⟨ad2, hA2, hg0⟩ := at_En (Kd.R_reads' HQ.out.grow).2.2 i z HI.out.1 _ HGI.out
                    cases hA2
                    have hgx : World.cell? wr (ad2.add z.toNat) = some (Value.slice gA (en + 20) gc) := hg0
                    obtain ⟨a1, e1, x0, x1, x2⟩ := at_T36 HD.out.cg y (by have := HY.out; omega) (by show y < ((en + 20 : Nat) : Int); omega)
                    have hrd : rd_T36 (List.replicate en (mw 7000 i) ++ List.replicate 20 (mw 9000 i)) y = mw 9000 z := by
                      unfold rd_T36
                      rw [List.getD_eq_getElem?_getD, List.getElem?_append_right (by rw [List.length_replicate]; have := HY.out; omega), List.length_replicate, List.getElem?_replicate, if_pos (by have := HY.out; omega), HI.out.1]
                      rfl
                    have e2 : gA = some a1 := e1
                    subst e2
                    rw [hrd] at x0 x1 x2
                    have y0 : wr.cell? (a1.add (y.toNat * 3)) = some (Value.int .i64 (wrap64 (9000 + z))) := x0
                    have y1 : wr.cell? ⟨(a1.add (y.toNat * 3)).block, (a1.add (y.toNat * 3)).off + 1, none⟩ = some (Value.string ⟨#[]⟩) := x1
                    have y2 : wr.cell? ⟨(a1.add (y.toNat * 3)).block, (a1.add (y.toNat * 3)).off + 2, none⟩ = some (Value.string ⟨#[]⟩) := x2
                    clear x0 x1 x2 hrd hy hyn e1 hg0
                    go_wp2
                    cases gk with
                    | zero => exact absurd HY.out.2.2 (by have := HY.out; have := HYY.out; omega)
                    | succ k =>
                    go_roundg k
                    case measure => omega
                    case rel => exact ⟨m + 1, _, rfl, ⟨by have := HY.out; have := HYY.out; have := HNN.out; refine ⟨(w64 (by omega) (by omega)).trans (by omega), by omega, by omega⟩⟩, HQ⟩
                · have d1 : decide (y < wrap64 ((en : Int) + 20)) = false := by rw [hw20]; exact decide_eq_false hy
                  clear hy hw20 HY
                  go_wp2
                  cases gko with
                  | zero => exact absurd HI.out.2.2 (by have := HI.out; have := HZ.out; omega)
                  | succ k =>
                  go_roundg k
                  case measure => omega
                  case rel => exact ⟨i + 1, _, rfl, ⟨by have := HI.out; have := HZ.out; have := HL.out; refine ⟨(w64 (by omega) (by omega)).trans (by omega), by omega, by omega⟩⟩, HQ⟩
            · have d0 : decide (z < (es.length : Int)) = false := decide_eq_false hz
              clear hz HI
              go_wp2
              go_ret
              exact ⟨rfl, HQ.out.bel, HQ.out.keep⟩
end Go.Proofs.Ytlgagjgfenmfeaa.HApW

/- apartCommits: lists of commits that share no memory are found as their holders left them. -/
set_option linter.unusedVariables false
set_option linter.unusedSimpArgs false
namespace Go.Proofs.Ytlgagjgfenmfeaa.HApC
open Go.RowKit Go.Proofs.Ytlgagjgfenmfeaa.HAp Go.Proofs.Ytlgagjgfenmfeaa.PRed Go.Proofs.YtlgagjgfenmfeaaW.PrintWords Go.Proofs.YtlgagjgfenmfeaaW.PrintLast Go.Proofs.YtlgagjgfenmfeaaW.PrintMore Go.Proofs.Ytlgagjgfenmfeaa.HCore

/-- A commit as it stands in its cells: what its writes are does not matter here. -/
structure Cm where
  f0 : Int
  e : En
def kCm : Kd Cm := Kd.iso (Kd.pair (Kd.int .u64) kEn) (fun x : Cm => (x.f0, x.e))
def zCm : Cm := ⟨0, ⟨none, 0, 0⟩⟩
theorem kCm_open {w : World} {x : Cm} {cs : List Value} (h : kCm.K w x cs) : cs = [.int .u64 x.f0, enV x.e] := by
  obtain ⟨_, _, rfl, rfl, h2⟩ := h
  obtain rfl : _ = [enV x.e] := h2
  rfl
theorem kCm_openM {w : World} {base : Nat} {ok : Nat → Prop} {x : Cm} {cs : List Value} (h : kCm.M w base ok x cs) : cs = [.int .u64 x.f0, enV x.e] := kCm_open (kCm.K_of_M h)
theorem kCm_mk (w : World) (x : Cm) : kCm.K w x [.int .u64 x.f0, enV x.e] := ⟨[.int .u64 x.f0], [enV x.e], rfl, rfl, rfl⟩
theorem kCm_mkM (w : World) (base : Nat) (ok : Nat → Prop) (x : Cm) : kCm.M w base ok x [.int .u64 x.f0, enV x.e] := ⟨[.int .u64 x.f0], [enV x.e], rfl, rfl, rfl⟩
def rd_Cm (xs : List Cm) (i : Int) : Cm := xs.getD i.toNat zCm
theorem at_Cm {w : World} {A : Option Addr} {n : Nat} {xs : List Cm} (h : Kd.C kCm w A n xs) (i : Int) (h0 : 0 ≤ i) (h1 : i < n) : ∃ ad, A = some ad ∧ w.cell? (ad.add (i.toNat * 2)) = some (.int .u64 (rd_Cm xs i).f0) := by
  obtain ⟨ad, c, e, _, hK, hc0⟩ := Kd.C_get h zCm i h0 h1
  have hc : ∀ j u, c[j]? = some u → w.cell? (ad.add (i.toNat * 2 + j)) = some u := hc0
  obtain rfl := kCm_open hK
  exact ⟨ad, e, hc 0 _ rfl⟩
theorem flatC : Flat kCm := ⟨fun h => by obtain rfl := kCm_open h; exact kCm_mk _ _, fun h => by obtain rfl := kCm_openM h; exact kCm_mkM _ _ _ _, rfl, by decide⟩
/-- A mark. -/
def mc (a z : Int) : Cm := ⟨IntKind.u64.wrap (wrap64 (a + z)), ⟨none, 0, 0⟩⟩
theorem store_run {P : Program} {o : Oper} {a : Act} {w w1 : World} {t : TypeId} {x y : Operand} {p v : Value} (ho : o.op = .store t x y) (hx : a.eval x = p) (hy : a.eval y = v) (h : (Instr.storeAt t p v).run P w = .ok () w1) : (execOp a.eval o).run P w = .ok .skip w1 := by
  unfold execOp
  rw [ho]
  simp [hx, hy, h]
/-- Element i of the call's own row is written whole. -/
theorem putC {W : World} {base g n c : Nat} {xs : List Cm} (h : Kd.R kCm 25 W base (fun _ => True) (.slice (some ⟨g, 0, none⟩) n c) xs) (i : Nat) (hi : i < n) (x : Cm) :
    Kd.R kCm 25 (W.setCells g (i * 2) [.int .u64 x.f0, enV x.e]) base (fun _ => True) (.slice (some ⟨g, 0, none⟩) n c) (xs.set i x)
    ∧ W.grownBy (W.setCells g (i * 2) [.int .u64 x.f0, enV x.e]) (some g)
    ∧ ∀ (v : Value), v.cells.toList = [.int .u64 x.f0, enV x.e] → (Instr.storeAt 25 (.pointer (some ⟨g, i * 2, none⟩)) v).run Try.prog W = .ok () (W.setCells g (i * 2) [.int .u64 x.f0, enV x.e]) := by
  obtain ⟨hl, hnc, hC⟩ := Kd.R_reads' h
  obtain ⟨ad, cs, e1, e2, e3, e4⟩ := ReadsRow.get_ hC zCm (i : Int) (by omega) (by omega)
  obtain rfl := Option.some.inj e1
  have hs := Kd.R_seg (okp := fun _ => False) (x' := x) (seg := [.int .u64 x.f0, enV x.e]) (j := 0) h (i : Int) (by omega) (by omega) e2 (fun j u hu => by have := e4 j u hu; rwa [add_plain] at this) (show 0 + 2 ≤ 2 by omega) (by
    have e : cs.drop (0 + 2) = [] := List.drop_of_length_le (by rw [e2]; decide)
    show kCm.M W base (fun _ => False) x (cs.take 0 ++ [.int .u64 x.f0, enV x.e] ++ cs.drop (0 + 2))
    rw [e]
    exact kCm_mkM _ _ _ x) (fun _ hk => hk.elim)
  obtain ⟨hr, hg⟩ := hs
  have hz : ((i : Int).toNat * kCm.sz + 0) = i * 2 := rfl
  rw [hz] at hr hg
  have hn : xs.set (i : Int).toNat x = xs.set i x := rfl
  rw [hn] at hr
  obtain ⟨_, inner, ho, hri⟩ := h
  obtain ⟨hin, ho2⟩ := ho
  rcases ho2 with ⟨hv, _⟩ | ⟨g', cap', cur, hv, hb, hh, hnc', hcm, hcs, ht⟩
  · cases hv
  injection hv with ha _ hc
  injection ha with ha
  injection ha with hgg
  subst hgg; subst hc
  have hfit : i * 2 + 2 ≤ cur.size := by
    rw [hcs]
    show i * 2 + 2 ≤ c * 2
    omega
  refine ⟨hr, hg, fun v hv => ?_⟩
  exact run_store_run 25 v _ hh hv (by kernel_rfl) hfit (by intro q hq; simp at hq; rcases hq with rfl | rfl <;> rfl)
theorem set_take {α : Type} (m : α) (xs : List α) (i : Nat) (hi : i < xs.length) : (List.replicate i m ++ xs.drop i).set i m = List.replicate (i + 1) m ++ xs.drop (i + 1) := by
  rw [List.set_append, if_neg (by simp), List.length_replicate, Nat.sub_self, List.drop_eq_getElem_cons hi, List.set_cons_zero, List.replicate_succ', List.append_assoc]
  rfl
/-- append onto one's own row: in its block, or in a new one, and then nothing older is touched. -/
theorem append_keeps {P : Program} {w w' : World} {base : Nat} {t ty e : TypeId} {i : TypeInfo} {z : Value} (ht : P.underlying t = some (.slice e)) (hi : P.info? e = some i) (hz : i.zero = some z)
    {v v' : Value} {n : Nat} {xs : List Value} (hown : w.ownsRow base e i.size v n xs) {a : Addr} {m c : Nat} {news : List Value} (hl : news.length = m * i.size) (hnews : ∀ j u, news[j]? = some u → w.cell? (a.add j) = some u) (h1 : ∀ u ∈ news, u.oneCell' = true)
    (h63 : n + m ≤ maxLen) (hbytes : (n + m) * i.bytes ≤ 140737488355328) (hg : w.grownBy w' v.ownBlock)
    (hr : (Builtin.append_ #[t, t] ty #[v, .slice (some a) m c]).run P w = .ok v' w') : v'.ownBlock = v.ownBlock ∨ ∀ k, k < w.heap.size → w'.heap[k]? = w.heap[k]? := by
  rcases hown.2 with ⟨rfl, rfl⟩ | ⟨g, cap, cur, rfl, hbg, hgg, hnc, hcm, hcs, htake⟩
  · exact Or.inr (fun k hk => hg.block k hk (by simp [Value.ownBlock]))
  · by_cases hroom : n + m ≤ cap
    · have hfit : n * i.size + news.length ≤ cur.size := by rw [hl, hcs, ← Nat.add_mul]; exact Nat.mul_le_mul_right _ hroom
      have hr2 := run_append_room (P := P) w t ty e i ht hi g n cap cur hgg a m c news hl hnews h1 hroom hfit
      rw [hr] at hr2
      injection hr2 with e1 _
      left
      rw [e1]
      rfl
    · have holds : ∀ j u, xs[j]? = some u → w.cell? ((⟨g, 0, none⟩ : Addr).add j) = some u := hown.cells (g := g) rfl
      have hr2 := run_append_grow (P := P) w t ty e i z ht hi hz ⟨g, 0, none⟩ n cap xs hown.1 holds a m c news hl hnews (by omega) (by simp only [maxLen] at h63; omega) (growslice_fits (by omega) hbytes)
      rw [hr] at hr2
      injection hr2 with _ e2
      right
      intro k hk
      rw [e2]
      exact heap_alloc_old w.drew _ hk
section
variable {P : Program} {ops : Array Oper} {rest : List Oper} {o : Oper} {a : Act} {Q : Exit → Act → World → Prop}
theorem append_one_keep {α : Type} (d : Kd α) {w0 W : World} (base : Nat) (hgd : o.guard = none) (s x : Operand) (t e : TypeId) (z : Value) (bytes : Nat)
    (ho : o.op = .call { callee := .builtin .append, args := #[s, x], argTypes := #[t, t] })
    (ht : P.underlying t = some (.slice e)) (hinfo : (P.info? e).map (fun i => (i.zero, i.size, i.bytes)) = some (some z, d.sz, bytes)) (hz : z.cells.size = d.sz) (hs0 : 0 < d.sz) (hb0 : 0 < bytes)
    (v : Value) (xs : List α) (p : α) (cs : List Value) (hs : a.eval s = v) (hx : a.eval x = .slice (some ⟨W.heap.size, 0, none⟩) 1 1) (hp : d.M W base (fun _ => False) p cs)
    (HO : d.R e W base (fun _ => True) v xs) (HB : Below base w0 W) (hbase : base ≤ W.heap.size) (hl : (xs.length + 1) * bytes ≤ 140737488355328)
    (h : ∀ v1 w1, d.R e w1 base (fun _ => True) v1 (xs ++ [p]) → Below base w0 w1 → W.grownBy w1 v.ownBlock → (v1.ownBlock = v.ownBlock ∨ ((∃ b, v1.ownBlock = some b ∧ W.heap.size ≤ b) ∧ ∀ k, k < W.heap.size → w1.heap[k]? = W.heap[k]?)) → wpList P ops Q rest (a.put o.dst v1) w1) :
    wpList P ops Q (o :: rest) a (W.alloc (.cells cs.toArray e)) := by
  obtain ⟨h0, inner, hown, hr⟩ := HO
  obtain ⟨i0, hi, hzz⟩ := Option.map_eq_some_iff.1 hinfo
  simp only [Prod.mk.injEq] at hzz
  obtain ⟨hz0, hz1, hz2⟩ := hzz
  have hlen : xs.length + 1 ≤ 140737488355328 := Nat.le_trans (Nat.le_mul_of_pos_right _ hb0) hl
  have hcs : cs.length = d.sz := d.K_len (d.K_of_M hp)
  have hone := d.K_one (d.K_of_M hp)
  have hnews : ∀ j u, cs[j]? = some u → (W.alloc (.cells cs.toArray e)).cell? ((⟨W.heap.size, 0, none⟩ : Addr).add j) = some u := by
    simpa using World.news_of_block (cs := cs.toArray) (t := e) (fr := (0, 0)) (heap_alloc_new W (.cells cs.toArray e))
  have hown2 : (W.alloc (.cells cs.toArray e)).ownsRow base e d.sz v xs.length inner := World.ownsRow.alloc hown _
  obtain ⟨v1, w1, hrun, hown1, hg1, _, hat⟩ := run_append_own_at (P := P) (W.alloc (.cells cs.toArray e)) base t o.type e i0 z d.sz bytes ht hi hz0 hz1 hz2 hz hs0 v xs.length inner hown2 ⟨W.heap.size, 0, none⟩ 1 1 cs (by rw [hcs]; simp) hnews hone (by simp only [maxLen]; omega) hl (by simp; omega)
  have hk := append_keeps ht hi hz0 (by rw [hz1]; exact hown2) (m := 1) (by rw [hcs, hz1]; simp) hnews hone (by simp only [maxLen]; omega) (by rw [hz2]; exact hl) hg1 hrun
  have hgW : W.grownBy w1 v.ownBlock := World.grownBy.trans (World.grownBy_alloc W _ _) hg1
  have hat1 : v1.ownBlock = v.ownBlock ∨ ∃ b, v1.ownBlock = some b ∧ W.heap.size ≤ b := by
    rcases hat with hat | hat
    · exact .inl hat
    · exact .inr ⟨_, hat, by simp⟩
  have hat2 : v1.ownBlock = v.ownBlock ∨ ((∃ b, v1.ownBlock = some b ∧ W.heap.size ≤ b) ∧ ∀ k, k < W.heap.size → w1.heap[k]? = W.heap[k]?) := by
    rcases hk with hk | hk
    · exact .inl hk
    · rcases hat1 with h1 | h1
      · exact .inl h1
      · exact .inr ⟨h1, fun k hkk => (hk k (by simp; omega)).trans (heap_alloc_old W _ hkk)⟩
  refine wpList_plain hgd fun K hK => ?_
  unfold Oper.wp execOp
  simp only [ho, resolve, invoke, builtin, Sem.run_bind, Sem.run_pure, Result.andThen_ok, List.map_toArray, List.map_cons, List.map_nil, hs, hx, hrun]
  exact hK _ _ (h v1 w1 (Kd.R_appended h0 hr hp (fun _ hk => hk.elim) (fun _ _ => trivial) hown1 hgW hat1) ((HB.alloc hbase _).grown hg1 (by simp; omega) (own_base hown)) hgW hat2)
end
theorem infoC : (Try.prog.info? 25).map (fun i => (i.zero, i.size, i.bytes)) = some (some (.agg #[.int .u64 0, .slice none 0 0]), 2, 32) := by kernel_rfl
theorem infoS : (Try.prog.info? 42).map (fun i => (i.zero, i.size, i.bytes)) = some (some (.slice none 0 0), 1, 24) := by kernel_rfl

set_option maxRecDepth 100000 in
set_option maxHeartbeats 8000000 in
theorem apart_any (base : Nat) (kv : Value) (es : List En) (w : World) (hb0 : Aside0 (base ≤ w.heap.size)) (HL : Aside0 (es.length ≤ 2000000000002)) (HN : Aside0 (∀ e ∈ es, e.n ≤ 1000000000000)) (HA : Aside0 (A1 kCm 25 42 base w w kv es (fun i => mc 7000 i) 0)) :
    Calls Try.prog 18 #[kv] w fun e w' => e = .returned (.bool true) ∧ Below base w w' ∧ ∀ b, b < w.heap.size → (∀ e ∈ es, (enV e).ownBlock ≠ some b) → w'.heap[b]? = w.heap[b]? := by
  obtain ⟨Ak, ck, hv⟩ := Kd.R_slice HA.out.row
  subst hv
  go_enter Try.func18, Try.ntmps18
  go_wp2
  go_loopg [4] (es.length + 1) (fun gk v4 wr => ∃ (i : Nat) (z : Int), v4 = .int .i64 z ∧ Aside0 (z = (i : Int) ∧ i ≤ es.length ∧ es.length < i + gk) ∧ Aside0 (A1 kCm 25 42 base w wr (.slice Ak es.length ck) es (fun i => mc 7000 i) i))
  case atStart => exact ⟨0, _, rfl, ⟨rfl, by omega, by omega⟩, HA⟩
  case round =>
    clear HA
    obtain ⟨i, z, rfl, HI, HA⟩ := hrel
    obtain ⟨gko, hgo⟩ : ∃ x, x = gk := ⟨gk, rfl⟩
    obtain ⟨wo, hwo⟩ : ∃ x, x = wr := ⟨wr, rfl⟩
    subst gk
    subst wr
    by_cases hz : z < (es.length : Int)
    · have d0 : decide (z < (es.length : Int)) = true := decide_eq_true hz
      have HZ := Aside0.mk hz
      have q0 : (z < (es.length : Int)) = True := eq_true hz
      have p0 : (0 ≤ z) = True := eq_true (by have := HI.out; omega)
      obtain ⟨⟨eA, en, ec⟩, he⟩ : ∃ e, es[i]? = some e := ⟨_, List.getElem?_eq_getElem (by have := HI.out; omega)⟩
      have HEI := Aside0.mk he
      have hnn : en ≤ 1000000000000 := HN.out _ (List.mem_of_getElem? he)
      have HNN := Aside0.mk hnn
      obtain ⟨xs, hxs, hR, _⟩ := HA.out.own i _ he
      have HX : Aside0 (xs.length = en) := ⟨hxs⟩
      have HR : Aside0 (Kd.R kCm 25 wo base (fun _ => True) (.slice eA en ec) (List.replicate 0 (mc 7000 z) ++ xs.drop 0)) := ⟨hR⟩
      have HG : Aside0 (wo.grownBy wo (Value.slice eA en ec).ownBlock) := ⟨⟨rfl, rfl, rfl, Nat.le_refl _, fun _ _ _ => rfl⟩⟩
      have HK := Aside0.mk HA.out.row
      have HB := Aside0.mk HA.out.bel
      clear hz he hnn hxs hR
      go_wp2
      go_loopg [5] (en + 1) (fun gk v5 wr => ∃ (m : Nat) (y : Int), v5 = .int .i64 y ∧ Aside0 (y = (m : Int) ∧ m ≤ en ∧ en < m + gk) ∧ Aside0 (Kd.R kCm 25 wr base (fun _ => True) (.slice eA en ec) (List.replicate m (mc 7000 z) ++ xs.drop m)) ∧ Aside0 (wo.grownBy wr (Value.slice eA en ec).ownBlock) ∧ Aside0 (Kd.R kEn 42 wr base (fun _ => True) (.slice Ak es.length ck) es) ∧ Aside0 (Below base w wr))
      case atStart => exact ⟨0, _, rfl, ⟨rfl, by omega, by omega⟩, HR, HG, HK, HB⟩
      case round =>
        clear HR HG HK HB
        obtain ⟨m, y, rfl, HY, HR, HG, HK, HB⟩ := hrel
        obtain ⟨ad, hA, hx0⟩ := at_En (Kd.R_reads' HK.out).2.2 i z HI.out.1 _ HEI.out
        cases hA
        have hx : World.cell? _ (ad.add z.toNat) = some (Value.slice eA en ec) := hx0
        clear hx0
        by_cases hy : y < (en : Int)
        · have d1 : decide (y < (en : Int)) = true := decide_eq_true hy
          have HYY := Aside0.mk hy
          have q1 : (y < (en : Int)) = True := eq_true hy
          have p1 : (0 ≤ y) = True := eq_true (by have := HY.out; omega)
          obtain ⟨g, hg⟩ : ∃ g, eA = some ⟨g, 0, none⟩ := by
            rcases own_form HR.out with ⟨_, h2, _⟩ | h
            · have := HY.out; omega
            · exact h
          subst hg
          obtain ⟨r1, r2, r3⟩ := putC HR.out m (by have := HY.out; omega) (mc 7000 z)
          rw [set_take _ _ m (by have := HY.out; have := HX.out; omega)] at r1
          have HQ1 := Aside0.mk r1
          have HQ2 := Aside0.mk r2
          have HQ3 := Aside0.mk r3
          have hz3 : y.toNat = m := by have := HY.out; omega
          clear r1 r2 r3 hy
          go_wp2_with (first | ((with_reducible refine gate_store (t := 25) (p := 36) rfl ?_); go_loud (refine store_event (t := 25) (p := 36) (v := ?vo) (w1 := wr.setCells g (m * 2) [.int .u64 (mc 7000 z).f0, enV (mc 7000 z).e]) ?hg ?ho ?hn ?hr ?_; (case ho => rfl); (case hg => rfl); (case hn => rfl); (case hr => exact store_run rfl (by first | rfl | (go_simp; done) | (go_simp; rfl)) (by rfl) (HQ3.out _ (by rfl))); intro w6 hw; rw [← hw] at HQ1 HQ2; have HGB : Aside0 (base ≤ g) := ⟨Kd.R_base HR.out g rfl⟩; have HK := Aside0.mk (Kd.R_mono (Kd.R_grown (Kd.R_apartR HK.out HR.out (by decide)) (show wr.grownBy w6 (Value.slice (some ⟨g, 0, none⟩) en ec).ownBlock from HQ2.out) (fun _ hk => hk.2)) (fun _ _ => trivial)); have HG := Aside0.mk (World.grownBy.trans HG.out (show wr.grownBy w6 (Value.slice (some ⟨g, 0, none⟩) en ec).ownBlock from HQ2.out)); have HB := Aside0.mk (HB.out.grown HQ2.out (Nat.le_trans hb0.out HB.out.size) (fun k hk => by injection hk with hk; rw [← hk]; exact HGB.out)); clear hw)))
          cases gk with
          | zero => exact absurd HY.out.2.2 (by have := HY.out; have := HYY.out; omega)
          | succ k2 =>
          go_roundg k2
          case measure => omega
          case rel => exact ⟨m + 1, _, rfl, ⟨by have := HY.out; have := HYY.out; have := HNN.out; refine ⟨(w64 (by omega) (by omega)).trans (by omega), by omega, by omega⟩⟩, HQ1, HG, HK, HB⟩
        · have d1 : decide (y < (en : Int)) = false := decide_eq_false hy
          have hm : m = en := by have := HY.out; omega
          have hA2 := HA.out.step flatC (by decide) HEI.out HG.out HB.out (by
            have h1 := HR.out
            have h2 : xs.drop m = [] := List.drop_of_length_le (by have := HX.out; omega)
            rw [h2, List.append_nil, hm, HI.out.1] at h1
            exact h1)
          have HA := Aside0.mk hA2
          clear hA2 hm hy HR HG HK HB HY
          go_wp2
          cases gko with
          | zero => exact absurd HI.out.2.2 (by have := HI.out; have := HZ.out; omega)
          | succ k =>
          go_roundg k
          case measure => omega
          case rel => exact ⟨i + 1, _, rfl, ⟨by have := HI.out; have := HZ.out; have := HL.out; refine ⟨(w64 (by omega) (by omega)).trans (by omega), by omega, by omega⟩⟩, HA⟩
    · have d0 : decide (z < (es.length : Int)) = false := decide_eq_false hz
      have hin : i = es.length := by have := HI.out; omega
      rw [hin] at HA
      obtain ⟨H0, hH0⟩ : ∃ H0, H0 = wo.heap.size := ⟨_, rfl⟩
      have HQ : Aside0 (A2 kCm 25 42 base w wo H0 (.slice Ak es.length ck) (.slice none 0 0) es [] (fun i => mc 7000 i) (fun i => mc 9000 i) 20 0) := ⟨by rw [hH0]; exact A2.start HA.out⟩
      have HH0 : Aside0 (base ≤ H0) := ⟨by rw [hH0]; exact Nat.le_trans hb0.out HA.out.bel.size⟩
      clear hz HI HA hin hH0
      go_wp2
      go_loopg [3, 6] (es.length + 1) (fun gk v3 v6 wr => ∃ (i : Nat) (z : Int) (gs : List En), v6 = .int .i64 z ∧ Aside0 (z = (i : Int) ∧ i ≤ es.length ∧ es.length < i + gk ∧ gs.length = i) ∧ Aside0 (A2 kCm 25 42 base w wr H0 (.slice Ak es.length ck) v3 es gs (fun i => mc 7000 i) (fun i => mc 9000 i) 20 i))
      case atStart => exact ⟨0, _, [], rfl, ⟨rfl, by omega, by omega, rfl⟩, HQ⟩
      case round =>
        clear HQ
        obtain ⟨i, z, gs, rfl, HI, HQ⟩ := hrel
        obtain ⟨gko, hgo⟩ : ∃ x, x = gk := ⟨gk, rfl⟩
        obtain ⟨wo, hwo⟩ : ∃ x, x = wr := ⟨wr, rfl⟩
        subst gk
        subst wr
        by_cases hz : z < (es.length : Int)
        · have d0 : decide (z < (es.length : Int)) = true := decide_eq_true hz
          have HZ := Aside0.mk hz
          have q0 : (z < (es.length : Int)) = True := eq_true hz
          have p0 : (0 ≤ z) = True := eq_true (by have := HI.out; omega)
          obtain ⟨⟨eA, en, ec⟩, he⟩ : ∃ e, es[i]? = some e := ⟨_, List.getElem?_eq_getElem (by have := HI.out; omega)⟩
          obtain ⟨ad, hA, hx0⟩ := at_En (Kd.R_reads' HQ.out.krow).2.2 i z HI.out.1 _ he
          cases hA
          have hx : World.cell? _ (ad.add z.toNat) = some (Value.slice eA en ec) := hx0
          have HEI := Aside0.mk he
          have HNN : Aside0 (en ≤ 1000000000000) := ⟨HN.out _ (List.mem_of_getElem? he)⟩
          have HP : Aside0 (Lp kCm 25 base w _ _ (⟨eA, en, ec⟩ : En) (.slice eA en ec) (mc 7000 i) (mc 9000 i) 0) := ⟨Lp.start HQ.out.bel (HQ.out.own i _ (Nat.le_refl _) he)⟩
          clear hz he hx0
          go_wp2
          go_loopg [7, 8] 21 (fun gk v7 v8 wr => ∃ (t : Nat) (y : Int), v8 = .int .i64 y ∧ Aside0 (y = (t : Int) ∧ t ≤ 20 ∧ 20 < t + gk) ∧ Aside0 (Lp kCm 25 base w wo wr (⟨eA, en, ec⟩ : En) v7 (mc 7000 i) (mc 9000 i) t))
          case atStart => exact ⟨0, _, rfl, ⟨rfl, by omega, by omega⟩, HP⟩
          case round =>
            clear HP
            obtain ⟨t, y, rfl, HY, HP⟩ := hrel
            by_cases hy : y < 20
            · have d1 : decide (y < 20) = true := decide_eq_true hy
              have HYY := Aside0.mk hy
              clear hy hx
              go_wp2_with (first | ((with_reducible refine gate_builtin (b := .append) (xs := #[.tmp 51, .tmp 56]) rfl ?_); go_loud (at_builtin; refine append_one_keep kCm (w0 := w) base rfl (.tmp 51) (.tmp 56) 42 25 (.agg #[(.int .u64 0), (.slice none 0 0)]) 32 rfl Try.underlying42 infoC rfl (by decide) (by decide) _ (List.replicate en (mc 7000 i) ++ List.replicate t (mc 9000 i)) (mc 9000 z) [.int .u64 (mc 9000 z).f0, .slice none 0 0] rfl (by first | (go_simp; done) | (go_simp; rfl)) ?aP ?aO ?aB ?aS ?aL ?_; (case aP => exact kCm_mkM _ _ _ (mc 9000 z)); (case aO => exact HP.out.row); (case aB => exact HP.out.bel); (case aS => exact Nat.le_trans hb0.out HP.out.bel.size); (case aL => rw [List.length_append, List.length_replicate, List.length_replicate]; have := HNN.out; have := HY.out; omega); intro v9 w9 ho hbb hg hat; rw [HI.out.1] at ho; have HP := Aside0.mk (HP.out.more flatC ho hbb hg hat); clear ho hbb hg hat)))
              cases gk with
              | zero => exact absurd HY.out.2.2 (by have := HY.out; have := HYY.out; omega)
              | succ k2 =>
              go_roundg k2
              case measure => omega
              case rel => exact ⟨t + 1, _, rfl, ⟨by have := HY.out; have := HYY.out; refine ⟨(w64 (by omega) (by omega)).trans (by omega), by omega, by omega⟩⟩, HP⟩
            · have d1 : decide (y < 20) = false := decide_eq_false hy
              have ht : t = 20 := by have := HY.out; omega
              rw [ht] at HP
              obtain ⟨⟨gA, gn, gc⟩, hv7, hq, hp⟩ := HQ.out.mark flatC (by decide) HI.out.2.2.2 HEI.out HP.out
              have hv8 : _ = Value.slice gA gn gc := hv7
              subst hv8
              have HQ := Aside0.mk hq
              have HPE := Aside0.mk hp
              clear hq hp hv7 ht hy HP HY hx
              go_wp2_with (first | ((with_reducible refine gate_builtin (b := .append) (xs := #[.tmp 58, .tmp 60]) rfl ?_); go_loud (at_builtin; refine Kd.R_append kEn (w0 := w) base rfl (.tmp 58) (.tmp 60) 51 42 (.slice none 0 0) 24 rfl Try.underlying51 infoS rfl (by decide) (by decide) _ gs (⟨gA, gn, gc⟩ : En) [.slice gA gn gc] (fun _ => True) (fun _ => False) rfl (by first | (go_simp; done) | (go_simp; rfl)) ?aP (fun _ hk => hk.elim) ?aF ?aO ?aB ?aS ?aL ?_; (case aP => exact rfl); (case aF => exact (fun _ _ => trivial)); (case aO => exact HQ.out.grow); (case aB => exact HQ.out.bel); (case aS => exact Nat.le_trans hb0.out HQ.out.bel.size); (case aL => have h9 := HI.out; have := HL.out; omega); intro v9 w9 ho hb hg hat; have HQ := Aside0.mk (HQ.out.push flatC (by decide) HH0.out HI.out.2.2.2 HEI.out HPE.out ho hb hg hat); clear ho hb hg hat)))
              cases gko with
              | zero => exact absurd HI.out.2.2.1 (by have := HI.out; have := HZ.out; omega)
              | succ k =>
              go_roundg k
              case measure => omega
              case rel => exact ⟨i + 1, _, gs ++ [⟨gA, gn, gc⟩], rfl, ⟨by have := HI.out; have := HZ.out; have := HL.out; refine ⟨(w64 (by omega) (by omega)).trans (by omega), by omega, by omega, by rw [List.length_append]; simp only [List.length_cons, List.length_nil]; omega⟩⟩, HQ⟩
        · have d0 : decide (z < (es.length : Int)) = false := decide_eq_false hz
          have hlg : gs.length = es.length := by have := HI.out; omega
          have hie : i = es.length := by have := HI.out; omega
          obtain ⟨Ag, cg, hv3⟩ := Kd.R_slice HQ.out.grow
          subst hv3
          have HLG := Aside0.mk hlg
          rw [hie, hlg] at HQ
          clear hz HI hie
          go_wp2
          rw [hlg]
          clear hlg
          go_loopg [9] (es.length + 1) (fun gk v9 wr => ∃ (i : Nat) (z : Int), v9 = .int .i64 z ∧ Aside0 (z = (i : Int) ∧ i ≤ es.length ∧ es.length < i + gk) ∧ Aside0 (A2 kCm 25 42 base w wr H0 (.slice Ak es.length ck) (.slice Ag es.length cg) es gs (fun i => mc 7000 i) (fun i => mc 9000 i) 20 es.length))
          case atStart => exact ⟨0, _, rfl, ⟨rfl, by omega, by omega⟩, HQ⟩
          case round =>
            clear HQ
            obtain ⟨i, z, rfl, HI, HQ⟩ := hrel
            obtain ⟨gko, hgo⟩ : ∃ x, x = gk := ⟨gk, rfl⟩
            obtain ⟨wo, hwo⟩ : ∃ x, x = wr := ⟨wr, rfl⟩
            subst gk
            subst wr
            by_cases hz : z < (es.length : Int)
            · have d0 : decide (z < (es.length : Int)) = true := decide_eq_true hz
              have HZ := Aside0.mk hz
              have q0 : (z < (es.length : Int)) = True := eq_true hz
              have p0 : (0 ≤ z) = True := eq_true (by have := HI.out; omega)
              obtain ⟨⟨eA, en, ec⟩, he⟩ : ∃ e, es[i]? = some e := ⟨_, List.getElem?_eq_getElem (by have := HI.out; omega)⟩
              obtain ⟨⟨gA, gn, gc⟩, hge⟩ : ∃ e, gs[i]? = some e := ⟨_, List.getElem?_eq_getElem (by have := HI.out; have := HLG.out; omega)⟩
              obtain ⟨ad, hA, hx0⟩ := at_En (Kd.R_reads' HQ.out.krow).2.2 i z HI.out.1 _ he
              cases hA
              have hx : World.cell? _ (ad.add z.toNat) = some (Value.slice eA en ec) := hx0
              have hgn : gn = en + 20 := (HQ.out.done i _ _ he hge).gn
              subst hgn
              have HEI := Aside0.mk he
              have HGI := Aside0.mk hge
              have HNN : Aside0 (en ≤ 1000000000000) := ⟨HN.out _ (List.mem_of_getElem? he)⟩
              clear hz he hge hx0
              go_wp2
              go_loopg [11] (en + 21) (fun gk v11 wr => ∃ (m : Nat) (y : Int), v11 = .int .i64 y ∧ Aside0 (y = (m : Int) ∧ m ≤ en + 20 ∧ en + 20 < m + gk) ∧ Aside0 (A2 kCm 25 42 base w wr H0 (.slice (some ad) es.length ck) (.slice Ag es.length cg) es gs (fun i => mc 7000 i) (fun i => mc 9000 i) 20 es.length))
              case atStart => exact ⟨0, _, rfl, ⟨rfl, by omega, by omega⟩, HQ⟩
              case round =>
                clear HQ hx
                obtain ⟨m, y, rfl, HY, HQ⟩ := hrel
                have hw20 : wrap64 ((en : Int) + 20) = (en : Int) + 20 := w64 (by omega) (by have := HNN.out; omega)
                have HW20 := Aside0.mk hw20
                by_cases hy : y < (en : Int) + 20
                · have d1 : decide (y < wrap64 ((en : Int) + 20)) = true := by rw [hw20]; exact decide_eq_true hy
                  have HYY := Aside0.mk hy
                  have p1 : (0 ≤ y) = True := eq_true (by have := HY.out; omega)
                  have HD := Aside0.mk (HQ.out.done i _ _ HEI.out HGI.out)
                  obtain ⟨ad0, hA, hx0⟩ := at_En (Kd.R_reads' HQ.out.krow).2.2 i z HI.out.1 _ HEI.out
                  cases hA
                  have hx : World.cell? _ (ad.add z.toNat) = some (Value.slice eA en ec) := hx0
                  clear hx0 hw20
                  by_cases hyn : y < (en : Int)
                  · have d2 : decide (y < (en : Int)) = true := decide_eq_true hyn
                    have d3 : decide ((en : Int) ≤ y) = false := decide_eq_false (by omega)
                    have q1 : (y < (en : Int)) = True := eq_true hyn
                    obtain ⟨a1, e1, x0⟩ := at_Cm HD.out.ce y (by have := HY.out; omega) hyn
                    have hrd : rd_Cm (List.replicate en (mc 7000 i)) y = mc 7000 z := by
                      unfold rd_Cm
                      rw [List.getD_eq_getElem?_getD, List.getElem?_replicate, if_pos (by have := HY.out; omega), HI.out.1]
                      rfl
                    have e2 : eA = some a1 := e1
                    subst e2
                    rw [hrd] at x0
                    have y0 : wr.cell? (a1.add (y.toNat * 2)) = some (Value.int .u64 (IntKind.u64.wrap (wrap64 (7000 + z)))) := x0
                    clear x0 hrd hy hyn e1
                    go_wp2
                    cases gk with
                    | zero => exact absurd HY.out.2.2 (by have := HY.out; have := HYY.out; omega)
                    | succ k =>
                    go_roundg k
                    case measure => omega
                    case rel => exact ⟨m + 1, _, rfl, ⟨by have := HY.out; have := HYY.out; have := HNN.out; refine ⟨(w64 (by omega) (by omega)).trans (by omega), by omega, by omega⟩⟩, HQ⟩
                  · have d2 : decide (y < (en : Int)) = false := decide_eq_false hyn
                    have d3 : decide ((en : Int) ≤ y) = true := decide_eq_true (by omega)
                    have q1 : (y < ((en + 20 : Nat) : Int)) = True := eq_true (by omega)
                    have q2 : (y < (en : Int) + 20) = True := eq_true hy
                    obtain ⟨ad2, hA2, hg0⟩ := at_En (Kd.R_reads' HQ.out.grow).2.2 i z HI.out.1 _ HGI.out
                    cases hA2
                    have hgx : World.cell? wr (ad2.add z.toNat) = some (Value.slice gA (en + 20) gc) := hg0
                    obtain ⟨a1, e1, x0⟩ := at_Cm HD.out.cg y (by have := HY.out; omega) (by show y < ((en + 20 : Nat) : Int); omega)
                    have hrd : rd_Cm (List.replicate en (mc 7000 i) ++ List.replicate 20 (mc 9000 i)) y = mc 9000 z := by
                      unfold rd_Cm
                      rw [List.getD_eq_getElem?_getD, List.getElem?_append_right (by rw [List.length_replicate]; have := HY.out; omega), List.length_replicate, List.getElem?_replicate, if_pos (by have := HY.out; omega), HI.out.1]
                      rfl
                    have e2 : gA = some a1 := e1
                    subst e2
                    rw [hrd] at x0
                    have y0 : wr.cell? (a1.add (y.toNat * 2)) = some (Value.int .u64 (IntKind.u64.wrap (wrap64 (9000 + z)))) := x0
                    clear x0 hrd hy hyn e1 hg0
                    go_wp2
                    cases gk with
                    | zero => exact absurd HY.out.2.2 (by have := HY.out; have := HYY.out; omega)
                    | succ k =>
                    go_roundg k
                    case measure => omega
                    case rel => exact ⟨m + 1, _, rfl, ⟨by have := HY.out; have := HYY.out; have := HNN.out; refine ⟨(w64 (by omega) (by omega)).trans (by omega), by omega, by omega⟩⟩, HQ⟩
                · have d1 : decide (y < wrap64 ((en : Int) + 20)) = false := by rw [hw20]; exact decide_eq_false hy
                  clear hy hw20 HY
                  go_wp2
                  cases gko with
                  | zero => exact absurd HI.out.2.2 (by have := HI.out; have := HZ.out; omega)
                  | succ k =>
                  go_roundg k
                  case measure => omega
                  case rel => exact ⟨i + 1, _, rfl, ⟨by have := HI.out; have := HZ.out; have := HL.out; refine ⟨(w64 (by omega) (by omega)).trans (by omega), by omega, by omega⟩⟩, HQ⟩
            · have d0 : decide (z < (es.length : Int)) = false := decide_eq_false hz
              clear hz HI
              go_wp2
              go_ret
              exact ⟨rfl, HQ.out.bel, HQ.out.keep⟩
end Go.Proofs.Ytlgagjgfenmfeaa.HApC

/- RedoLent: what stands while lists of commits that were read are gathered; then the law's walk. -/
set_option linter.unusedVariables false
set_option linter.unusedSimpArgs false
namespace Go.Proofs.Ytlgagjgfenmfeaa.HLent
open Go.RowKit Go.Proofs.Ytlgagjgfenmfeaa.HAp Go.Proofs.Ytlgagjgfenmfeaa.HApC Go.Proofs.Ytlgagjgfenmfeaa.PRed Go.Proofs.YtlgagjgfenmfeaaW.PrintWords Go.Proofs.YtlgagjgfenmfeaaW.PrintLast Go.Proofs.YtlgagjgfenmfeaaW.PrintMore Go.Proofs.Ytlgagjgfenmfeaa.HCore

/-- The row of a list of commits as its cells stand, and the writes of each in memory of their own. -/
theorem open_S {W : World} {base : Nat} {v : Value} {l : List S25} (h : Kd.S k25 25 W base (fun _ => True) v l) :
    ∃ (f : Nat → Nat) (g : Nat → Cm), Kd.R kCm 25 W base (fun _ => True) v ((List.range l.length).map g) ∧ ∀ j x, l[j]? = some x → (g j).f0 = x.f0 ∧ Kd.R k36 36 W base (fun b => f b = j) (enV (g j).e) x.f1 := by
  obtain ⟨f, h0, inner, ho, hr⟩ := h
  have hlen : l.zipIdx.length = l.length := List.length_zipIdx
  have hex : ∀ j : Nat, ∃ r : Cm, ∀ x, l[j]? = some x → r.f0 = x.f0 ∧ ((inner.drop (j * 2)).take 2 = [.int .u64 r.f0, enV r.e]) ∧ Kd.R k36 36 W base (fun b => f b = j) (enV r.e) x.f1 := by
    intro j
    cases hx : l[j]? with
    | none => exact ⟨zCm, fun x h => by cases h⟩
    | some x =>
      have hm := hr.2 j (x, j) (Kd.zip_at hx)
      obtain ⟨v1, hcs, hR⟩ := k25_openM hm
      obtain ⟨A, c, rfl⟩ := Kd.R_slice hR
      exact ⟨⟨x.f0, ⟨A, x.f1.length, c⟩⟩, fun y hy => by cases hy; exact ⟨rfl, hcs, Kd.R_mono hR (fun k hk => hk.2)⟩⟩
  obtain ⟨g, hg⟩ := Classical.skolem.1 hex
  refine ⟨f, g, ⟨fun _ _ => trivial, inner, ?_, ?_, ?_⟩, fun j x hx => ⟨(hg j x hx).1, (hg j x hx).2.2⟩⟩
  · rw [List.length_map, List.length_range]
    rw [hlen] at ho
    exact ho
  · have := hr.1
    rw [hlen] at this
    rw [List.length_map, List.length_range]
    exact this
  · intro j r hj
    rw [List.getElem?_map] at hj
    have hjl : j < l.length := by
      rcases Nat.lt_or_ge j l.length with h1 | h1
      · exact h1
      · rw [List.getElem?_eq_none (by rw [List.length_range]; exact h1)] at hj; cases hj
    rw [List.getElem?_range hjl] at hj
    obtain rfl : g j = r := by injection hj
    have h2 := (hg j _ (List.getElem?_eq_getElem hjl)).2.1
    show kCm.M _ _ _ _ ((inner.drop (j * 2)).take 2)
    rw [h2]
    exact kCm_mkM _ _ _ _

/-- The slices of writes, in the order in which the law gathers them. -/
def Ep (ea eb : En) (gl gm : Nat → Cm) (p : Nat) : En := if p = 0 then ea else if p = 1 then eb else if p % 2 = 0 then (gl ((p - 2) / 2)).e else (gm ((p - 3) / 2)).e
theorem Ep_l (ea eb : En) (gl gm : Nat → Cm) (i : Nat) : Ep ea eb gl gm (2 + 2 * i) = (gl i).e := by
  unfold Ep
  rw [if_neg (by omega), if_neg (by omega), if_pos (by omega), show (2 + 2 * i - 2) / 2 = i by omega]
theorem Ep_m (ea eb : En) (gl gm : Nat → Cm) (i : Nat) : Ep ea eb gl gm (3 + 2 * i) = (gm i).e := by
  unfold Ep
  rw [if_neg (by omega), if_neg (by omega), if_neg (by omega), show (3 + 2 * i - 3) / 2 = i by omega]
/-- What stands while they are gathered: n of them are. -/
structure Ls (w : World) (N : Nat) (E : Nat → En) (X : Nat → List S36) (vl vm : Value) (gl gm : Nat → Cm) (c : Nat) (kv : Value) (n : Nat) (W : World) : Prop where
  bel : Below w.heap.size w W
  own : ∀ p, p < N → Kd.R k36 36 W w.heap.size (fun _ => True) (enV (E p)) (X p)
  l : Kd.R kCm 25 W w.heap.size (fun _ => True) vl ((List.range c).map gl)
  m : Kd.R kCm 25 W w.heap.size (fun _ => True) vm ((List.range c).map gm)
  row : Kd.R kEn 23 W w.heap.size (fun _ => True) kv ((List.range n).map E)
section
variable {w W W' : World} {N c n : Nat} {E : Nat → En} {X : Nat → List S36} {vl vm kv kv' : Value} {gl gm : Nat → Cm}
theorem Ls.below (h : Ls w N E X vl vm gl gm c kv n W) (hb : Below W.heap.size W W') : Ls w N E X vl vm gl gm c kv n W' :=
  ⟨below_step h.bel hb, fun p hp => Kd.R_below (h.own p hp) hb, Kd.R_below h.l hb, Kd.R_below h.m hb, Kd.R_below h.row hb⟩
theorem Ls.more (h : Ls w N E X vl vm gl gm c kv n W) (hb : Below w.heap.size w W') (hg : W.grownBy W' kv.ownBlock) (hr : Kd.R kEn 23 W' w.heap.size (fun _ => True) kv' ((List.range n).map E ++ [E n, E (n + 1)])) : Ls w N E X vl vm gl gm c kv' (n + 2) W' := by
  refine ⟨hb, fun p hp => Kd.R_mono (Kd.R_grown (Kd.R_apartR (h.own p hp) h.row (by decide)) hg (fun _ hk => hk.2)) (fun _ _ => trivial), Kd.R_mono (Kd.R_grown (Kd.R_apartR h.l h.row (by decide)) hg (fun _ hk => hk.2)) (fun _ _ => trivial), Kd.R_mono (Kd.R_grown (Kd.R_apartR h.m h.row (by decide)) hg (fun _ hk => hk.2)) (fun _ _ => trivial), ?_⟩
  have e : (List.range (n + 2)).map E = (List.range n).map E ++ [E n, E (n + 1)] := by
    rw [List.range_succ, List.map_append, List.range_succ, List.map_append, List.append_assoc]
    rfl
  rw [e]
  exact hr
end
theorem apart_of {M : Nat} {E : Nat → En} (q : Nat → Nat) (h : ∀ p, p < M → ∀ b, (enV (E p)).ownBlock = some b → q b = p) : Apart ((List.range M).map E) := by
  unfold Apart
  rw [List.pairwise_iff_getElem]
  intro i j hi hj hij b hb hb'
  rw [List.length_map, List.length_range] at hi hj
  rw [List.getElem_map, List.getElem_range] at hb hb'
  have h1 := h i hi b hb
  have h2 := h j hj b hb'
  omega
/-- What apartWrites wants. -/
theorem Ls.a1 {w W : World} {N c : Nat} {E : Nat → En} {X : Nat → List S36} {vl vm kv : Value} {gl gm : Nat → Cm} {mk : Nat → S36} (h : Ls w N E X vl vm gl gm c kv N W) (hX : ∀ p, p < N → (X p).length = (E p).n) (ha : Apart ((List.range N).map E)) : A1 k36 36 23 w.heap.size W W kv ((List.range N).map E) mk 0 :=
  ⟨Below.refl _ _, h.row, ha, fun j e he => by
    have hj := get_lt he
    rw [List.length_map, List.length_range] at hj
    rw [List.getElem?_map, List.getElem?_range hj] at he
    obtain rfl : E j = e := by injection he
    exact ⟨X j, hX j hj, h.own j hj, fun h => by omega⟩, fun _ _ _ => rfl⟩
/-- What apartCommits wants, behind apartWrites. -/
theorem Ls.a1c {w W W' W2 : World} {N c : Nat} {E : Nat → En} {X : Nat → List S36} {vl vm kv kv2 : Value} {el em : En} {gl gm : Nat → Cm} {mk : Nat → Cm} (h : Ls w N E X (enV el) (enV em) gl gm c kv N W)
    (hk : ∀ b, b < W.heap.size → (∀ e ∈ (List.range N).map E, (enV e).ownBlock ≠ some b) → W'.heap[b]? = W.heap[b]?) (hb2 : Below W'.heap.size W' W2) (hne : ∀ b, (enV el).ownBlock = some b → (enV em).ownBlock ≠ some b)
    (hr : Kd.R kEn 42 W2 w.heap.size (fun _ => True) kv2 [el, em]) (hn : el.n = c ∧ em.n = c) : A1 kCm 25 42 w.heap.size W2 W2 kv2 [el, em] mk 0 := by
  have hfar : ∀ p, p < N → ∀ b, (enV (E p)).ownBlock = some b → ∀ v (xs : List Cm), Kd.R kCm 25 W w.heap.size (fun _ => True) v xs → v.ownBlock ≠ some b := fun p hp b hb v xs hR hv => by
    obtain ⟨c1, h1⟩ := Kd.R_typed (h.own p hp) b hb
    obtain ⟨c2, h2⟩ := Kd.R_typed hR b hv
    rw [h1] at h2
    injection h2 with h2
    injection h2 with _ h3
    exact absurd h3 (by decide)
  have tr : ∀ v xs, Kd.R kCm 25 W w.heap.size (fun _ => True) v xs → Kd.R kCm 25 W2 w.heap.size (fun _ => True) v xs := fun v xs hR => by
    refine Kd.R_below (Kd.R_mono (Kd.R_step (R_but flatC (ok' := fun b => v.ownBlock = some b) hR (fun _ h => h)) (fun b hb hlt => hk b hlt (fun e he hb2 => ?_))) (fun _ _ => trivial)) hb2
    obtain ⟨p, hp, rfl⟩ := List.mem_map.1 he
    exact hfar p (List.mem_range.1 hp) b hb2 v xs hR hb
  refine ⟨Below.refl _ _, hr, ?_, fun j e he => ?_, fun _ _ _ => rfl⟩
  · refine List.Pairwise.cons (fun e he b hb hb' => ?_) (List.Pairwise.cons (fun e he => by cases he) List.Pairwise.nil)
    rcases List.mem_cons.1 he with rfl | he
    · exact hne b hb hb'
    · cases he
  · match j, he with
    | 0, he =>
      obtain rfl : el = e := by simpa using he
      exact ⟨_, by rw [List.length_map, List.length_range]; exact hn.1.symm, tr _ _ h.l, fun h => by omega⟩
    | 1, he =>
      obtain rfl : em = e := by simpa using he
      exact ⟨_, by rw [List.length_map, List.length_range]; exact hn.2.symm, tr _ _ h.m, fun h => by omega⟩
end Go.Proofs.Ytlgagjgfenmfeaa.HLent

/- RedoLent: commits and lists of commits as they come back, each in memory of its own. -/
set_option linter.unusedVariables false
set_option linter.unusedSimpArgs false
namespace Go.Proofs.Ytlgagjgfenmfeaa.HLent
open Go.RowKit Go.Proofs.Ytlgagjgfenmfeaa.HAp Go.Proofs.Ytlgagjgfenmfeaa.HApC Go.Proofs.Ytlgagjgfenmfeaa.PRed Go.Proofs.Ytlgagjgfenmfeaa.HDec Go.Proofs.Ytlgagjgfenmfeaa.HRedL Go.Proofs.YtlgagjgfenmfeaaW.PrintWords Go.Proofs.YtlgagjgfenmfeaaW.PrintLast Go.Proofs.YtlgagjgfenmfeaaW.PrintMore Go.Proofs.Ytlgagjgfenmfeaa.HCore

theorem may_len {st : Int} {ws : List S36} (h : may st ws = true) : ws.length ≤ 128 := by
  unfold may at h
  simp only [Bool.and_eq_true, decide_eq_true_eq] at h
  omega
theorem decC_len {s : ByteArray} {r : Int × List S36} (h : decC s = some r) : may r.1 r.2 = true := by
  unfold decC at h
  split at h
  · split at h
    · unfold fin at h
      obtain ⟨x, _, hx⟩ := Option.bind_eq_some_iff.1 h
      split at hx
      · rename_i hm
        obtain rfl := Option.some.inj hx
        exact hm.1
      · cases hx
    · cases h
  · cases h
theorem told_len (s : ByteArray) : (told (decC s)).2.1.length ≤ 128 := by
  cases h : decC s with
  | none => exact Nat.zero_le _
  | some r => exact may_len (decC_len h)
theorem frun_all (s : ByteArray) : ∀ (d : Nat) (p : Int) (l l' : List S25), frun s d p l = some l' → (∀ x ∈ l, x.f1.length ≤ 128) → (∀ x ∈ l', x.f1.length ≤ 128) ∧ l'.length ≤ l.length + d := by
  intro d
  induction d with
  | zero => intro p l l' h; cases h
  | succ d ih =>
    intro p l l' h hl
    unfold frun at h
    split at h
    · split at h
      · obtain ⟨r, hr, h⟩ := Option.bind_eq_some_iff.1 h
        have h2 := ih _ _ _ h (fun x hx => by
          rcases List.mem_append.1 hx with hx | hx
          · exact hl x hx
          · rw [List.mem_singleton] at hx; subst hx; exact may_len (decC_len hr))
        rw [List.length_append, List.length_singleton] at h2
        exact ⟨h2.1, by omega⟩
      · cases h
    · obtain rfl := Option.some.inj h
      exact ⟨hl, by omega⟩
theorem frm_all (s : ByteArray) : (∀ x ∈ (toldF (frmC s)).1, x.f1.length ≤ 128) ∧ (toldF (frmC s)).1.length ≤ s.size + 1 := by
  cases h : frmC s with
  | none => exact ⟨fun x hx => by simp [toldF] at hx, Nat.zero_le _⟩
  | some l =>
    unfold frmC at h
    obtain ⟨l', hl, h⟩ := Option.bind_eq_some_iff.1 h
    split at h
    · cases h
    · obtain rfl := Option.some.inj h
      have := frun_all s _ _ _ _ hl (fun x hx => by simp at hx)
      exact ⟨this.1, by have h2 := this.2; rw [List.length_nil, Nat.zero_add] at h2; exact h2⟩

/-- A commit that was read, in its variable (block g); its writes lie in memory made between lo and hi. -/
structure Bx (w : World) (st : Int) (ws : List S36) (ea : En) (g lo hi : Nat) (W : World) : Prop where
  c0 : W.cell? ⟨g, 0, none⟩ = some (.int .u64 st)
  c1 : W.cell? ⟨g, 1, none⟩ = some (enV ea)
  n : ea.n = ws.length
  own : Kd.R k36 36 W w.heap.size (fun _ => True) (enV ea) ws
  rng : ∀ b, (enV ea).ownBlock = some b → lo ≤ b ∧ b < hi
theorem cell_new (w : World) (cs : Array Value) (t : TypeId) (i : Nat) (v : Value) (h : cs[i]? = some v) : (w.alloc (.cells cs t)).cell? ⟨w.heap.size, i, none⟩ = some v := (blk_cell (heap_alloc_new w (.cells cs t)) i).trans h
theorem Bx.start {w W0 W : World} {st : Int} {ws : List S36} {A : Option Addr} {c : Nat} (h0 : w.heap.size ≤ W0.heap.size) (ho : Kd.R k36 36 W W0.heap.size (fun _ => True) (.slice A ws.length c) ws) :
    Bx w st ws ⟨A, ws.length, c⟩ W.heap.size W0.heap.size W.heap.size (W.alloc (.cells #[.int .u64 st, .slice A ws.length c] 25)) :=
  ⟨cell_new _ _ _ 0 _ rfl, cell_new _ _ _ 1 _ rfl, rfl, Kd.R_alloc (Kd.R_lower ho h0) _, fun b hb => ⟨Kd.R_base ho b hb, Kd.R_lt ho b hb⟩⟩
theorem Bx.below {w W W' : World} {st : Int} {ws : List S36} {ea : En} {g lo hi : Nat} (h : Bx w st ws ea g lo hi W) (hb : Below W.heap.size W W') : Bx w st ws ea g lo hi W' :=
  ⟨pw_cell_below hb h.c0, pw_cell_below hb h.c1, h.n, Kd.R_below h.own hb, h.rng⟩
/-- A list of commits that was read: its row, and the writes of each; all in memory made between lo and hi, no two in one. -/
structure Lx (w : World) (l : List S25) (el : En) (gl : Nat → Cm) (f : Nat → Nat) (lo hi : Nat) (W : World) : Prop where
  n : el.n = l.length
  row : Kd.R kCm 25 W w.heap.size (fun _ => True) (enV el) ((List.range l.length).map gl)
  own : ∀ j x, l[j]? = some x → (gl j).f0 = x.f0 ∧ (gl j).e.n = x.f1.length ∧ Kd.R k36 36 W w.heap.size (fun _ => True) (enV (gl j).e) x.f1
  rng : ∀ j, j < l.length → ∀ b, (enV (gl j).e).ownBlock = some b → f b = j ∧ lo ≤ b ∧ b < hi
  orng : ∀ b, (enV el).ownBlock = some b → lo ≤ b ∧ b < hi
theorem Lx.start {w W0 W : World} {l : List S25} {v : Value} (h0 : w.heap.size ≤ W0.heap.size) (ho : Kd.S k25 25 W W0.heap.size (fun _ => True) v l) : ∃ el gl f, v = enV el ∧ Lx w l el gl f W0.heap.size W.heap.size W := by
  obtain ⟨f, g, hr, hg⟩ := open_S ho
  obtain ⟨A, c, rfl⟩ := Kd.S_slice ho
  refine ⟨⟨A, l.length, c⟩, g, f, rfl, rfl, Kd.R_lower hr h0, fun j x hx => ⟨(hg j x hx).1, ?_, Kd.R_lower (Kd.R_mono (hg j x hx).2 (fun _ _ => trivial)) h0⟩, fun j hj b hb => ?_, fun b hb => ⟨Kd.R_base hr b hb, Kd.R_lt hr b hb⟩⟩
  · have := (Kd.R_reads' (hg j x hx).2).1
    exact this
  · have h1 := (hg j _ (List.getElem?_eq_getElem hj)).2
    exact ⟨h1.1 b hb, Kd.R_base h1 b hb, Kd.R_lt h1 b hb⟩
theorem Lx.below {w W W' : World} {l : List S25} {el : En} {gl : Nat → Cm} {f : Nat → Nat} {lo hi : Nat} (h : Lx w l el gl f lo hi W) (hb : Below W.heap.size W W') : Lx w l el gl f lo hi W' :=
  ⟨h.n, Kd.R_below h.row hb, fun j x hx => ⟨(h.own j x hx).1, (h.own j x hx).2.1, Kd.R_below (h.own j x hx).2.2 hb⟩, h.rng, h.orng⟩
/-- What each of the gathered slices holds. -/
def Xp (ws : List S36) (l : List S25) (p : Nat) : List S36 := if p < 2 then ws else (l.getD ((p - 2) / 2) z25).f1
theorem ep_cases {P : Nat → Prop} (p : Nat) (h0 : P 0) (h1 : P 1) (h2 : ∀ i, p = 2 + 2 * i → P (2 + 2 * i)) (h3 : ∀ i, p = 3 + 2 * i → P (3 + 2 * i)) : P p := by
  rcases Nat.lt_or_ge p 2 with h | h
  · rcases Nat.lt_or_ge p 1 with h4 | h4
    · have : p = 0 := by omega
      subst this; exact h0
    · have : p = 1 := by omega
      subst this; exact h1
  · rcases Nat.mod_two_eq_zero_or_one p with h4 | h4
    · have e : p = 2 + 2 * ((p - 2) / 2) := by omega
      rw [e]; exact h2 _ e
    · have e : p = 3 + 2 * ((p - 3) / 2) := by omega
      rw [e]; exact h3 _ e
theorem Xp_l (ws : List S36) (l : List S25) (i : Nat) (x : S25) (h : l[i]? = some x) : Xp ws l (2 + 2 * i) = x.f1 := by
  unfold Xp
  rw [if_neg (by omega), show (2 + 2 * i - 2) / 2 = i by omega, List.getD_eq_getElem?_getD, h]
  rfl
theorem Xp_m (ws : List S36) (l : List S25) (i : Nat) (x : S25) (h : l[i]? = some x) : Xp ws l (3 + 2 * i) = x.f1 := by
  unfold Xp
  rw [if_neg (by omega), show (3 + 2 * i - 2) / 2 = i by omega, List.getD_eq_getElem?_getD, h]
  rfl
section
variable {w W : World} {st : Int} {ws : List S36} {l : List S25} {ea eb el em : En} {gl gm : Nat → Cm} {fl fm : Nat → Nat} {g1 g2 a0 a1 b0 b1 c0 c1 d0 d1 : Nat}
theorem gather (hA : Bx w st ws ea g1 a0 a1 W) (hB : Bx w st ws eb g2 b0 b1 W) (hL : Lx w l el gl fl c0 c1 W) (hM : Lx w l em gm fm d0 d1 W) (hb : Below w.heap.size w W) {kv : Value} (hr : Kd.R kEn 23 W w.heap.size (fun _ => True) kv [ea, eb]) :
    Ls w (2 + 2 * l.length) (Ep ea eb gl gm) (Xp ws l) (enV el) (enV em) gl gm l.length kv 2 W := by
  refine ⟨hb, fun p => ep_cases (P := fun p => p < 2 + 2 * l.length → Kd.R k36 36 W w.heap.size (fun _ => True) (enV (Ep ea eb gl gm p)) (Xp ws l p)) p (fun _ => hA.own) (fun _ => hB.own) (fun i _ hp => ?_) (fun i _ hp => ?_), hL.row, hM.row, hr⟩
  · have hx := List.getElem?_eq_getElem (show i < l.length by omega)
    rw [Ep_l, Xp_l ws l i _ hx]
    exact (hL.own i _ hx).2.2
  · have hx := List.getElem?_eq_getElem (show i < l.length by omega)
    rw [Ep_m, Xp_m ws l i _ hx]
    exact (hM.own i _ hx).2.2
theorem lens (hA : Bx w st ws ea g1 a0 a1 W) (hB : Bx w st ws eb g2 b0 b1 W) (hL : Lx w l el gl fl c0 c1 W) (hM : Lx w l em gm fm d0 d1 W) : ∀ p, p < 2 + 2 * l.length → (Xp ws l p).length = (Ep ea eb gl gm p).n := by
  intro p
  refine ep_cases (P := fun p => p < 2 + 2 * l.length → (Xp ws l p).length = (Ep ea eb gl gm p).n) p (fun _ => hA.n.symm) (fun _ => hB.n.symm) (fun i _ hp => ?_) (fun i _ hp => ?_)
  · have hx := List.getElem?_eq_getElem (show i < l.length by omega)
    rw [Ep_l, Xp_l ws l i _ hx]
    exact (hL.own i _ hx).2.1.symm
  · have hx := List.getElem?_eq_getElem (show i < l.length by omega)
    rw [Ep_m, Xp_m ws l i _ hx]
    exact (hM.own i _ hx).2.1.symm
theorem aparts (hA : Bx w st ws ea g1 a0 a1 W) (hB : Bx w st ws eb g2 b0 b1 W) (hL : Lx w l el gl fl c0 c1 W) (hM : Lx w l em gm fm d0 d1 W) (h1 : a1 ≤ b0) (h2 : b1 ≤ c0) (h3 : c1 ≤ d0) (h4 : b0 ≤ b1) (h5 : c0 ≤ c1) : Apart ((List.range (2 + 2 * l.length)).map (Ep ea eb gl gm)) := by
  refine apart_of (fun b => if b < a1 then 0 else if b < b1 then 1 else if b < c1 then 2 + 2 * fl b else 3 + 2 * fm b) (fun p => ep_cases (P := fun p => p < 2 + 2 * l.length → ∀ b, (enV (Ep ea eb gl gm p)).ownBlock = some b → (if b < a1 then 0 else if b < b1 then 1 else if b < c1 then 2 + 2 * fl b else 3 + 2 * fm b) = p) p (fun _ b hb => ?_) (fun _ b hb => ?_) (fun i _ hp b hb => ?_) (fun i _ hp b hb => ?_))
  · have := hA.rng b hb
    rw [if_pos this.2]
  · have := hB.rng b hb
    rw [if_neg (by omega), if_pos this.2]
  · rw [Ep_l] at hb
    have := hL.rng i (by omega) b hb
    rw [if_neg (by omega), if_neg (by omega), if_pos this.2.2, this.1]
  · rw [Ep_m] at hb
    have := hM.rng i (by omega) b hb
    rw [if_neg (by omega), if_neg (by omega), if_neg (by omega), this.1]
end
end Go.Proofs.Ytlgagjgfenmfeaa.HLent

/- RedoLent: the law's walk. -/
set_option linter.unusedVariables false
set_option linter.unusedSimpArgs false
namespace Go.Proofs.Ytlgagjgfenmfeaa.HLent
open Go.RowKit Go.Proofs.Ytlgagjgfenmfeaa.HAp Go.Proofs.Ytlgagjgfenmfeaa.HApC Go.Proofs.Ytlgagjgfenmfeaa.PRed Go.Proofs.Ytlgagjgfenmfeaa.HDec Go.Proofs.Ytlgagjgfenmfeaa.HRedL Go.Proofs.YtlgagjgfenmfeaaW.PrintWords Go.Proofs.YtlgagjgfenmfeaaW.PrintLast Go.Proofs.YtlgagjgfenmfeaaW.PrintMore Go.Proofs.Ytlgagjgfenmfeaa.HCore

theorem two_row (W : World) (base : Nat) (t : TypeId) (a b : En) (hb : base ≤ W.heap.size) : Kd.R kEn t (W.alloc (.cells #[enV a, enV b] t)) base (fun _ => True) (.slice (some ⟨W.heap.size, 0, none⟩) 2 2) [a, b] := by
  refine ⟨fun _ _ => trivial, [enV a, enV b], ?_, by rfl, fun j p hj => ?_⟩
  · have h := World.ownsRow_lit (base := base) (e := t) (size := 1) W #[enV a, enV b] 2 hb (by simp [maxLen]) (by simp)
    exact (by simpa using h : (W.alloc (.cells #[enV a, enV b] t)).ownsRow base t 1 (.slice (some ⟨W.heap.size, 0, none⟩) 2 2) 2 [enV a, enV b])
  · match j, hj with
    | 0, hj => obtain rfl : a = p := by simpa using hj
               rfl
    | 1, hj => obtain rfl : b = p := by simpa using hj
               rfl
theorem rd_at {l : List S25} {i : Nat} {z : Int} (hz : z = (i : Int)) {x : S25} (h : l[i]? = some x) : rd_T25 l z = x := by
  unfold rd_T25
  rw [List.getD_eq_getElem?_getD, hz, Int.toNat_natCast, h]
  rfl
theorem at_row {W : World} {base c n cap : Nat} {A : Option Addr} {g : Nat → Cm} (h : Kd.R kCm 25 W base (fun _ => True) (.slice A n cap) ((List.range c).map g)) (i : Nat) (z : Int) (hz : z = (i : Int)) (hi : i < c) :
    ∃ ad, A = some ad ∧ W.cell? (ad.add (z.toNat * 2)) = some (.int .u64 (g i).f0) ∧ W.cell? ⟨(ad.add (z.toNat * 2)).block, (ad.add (z.toNat * 2)).off + 1, none⟩ = some (enV (g i).e) := by
  obtain ⟨h1, h2, h3⟩ := Kd.R_reads' h
  have hl : ((List.range c).map g).length = c := by rw [List.length_map, List.length_range]
  rw [hl] at h3
  obtain ⟨ad, cs, e, _, hK, hc0⟩ := Kd.C_get h3 zCm z (by omega) (by omega)
  have hc : ∀ j u, cs[j]? = some u → W.cell? (ad.add (z.toNat * 2 + j)) = some u := hc0
  have h4 : ((List.range c).map g).getD z.toNat zCm = g i := by
    rw [List.getD_eq_getElem?_getD, hz, Int.toNat_natCast, List.getElem?_map, List.getElem?_range hi]
    rfl
  rw [h4] at hK
  obtain rfl := kCm_open hK
  exact ⟨ad, e, hc 0 _ rfl, by rw [← add_field _ _ 1 (by omega)]; exact hc 1 _ rfl⟩
theorem cell_row {W : World} {base c n cap : Nat} {ad : Addr} {g : Nat → Cm} (h : Kd.R kCm 25 W base (fun _ => True) (.slice (some ad) n cap) ((List.range c).map g)) (i : Nat) (z : Int) (hz : z = (i : Int)) (hi : i < c) (e : En) (he : (g i).e = e) :
    W.cell? ⟨(ad.add (z.toNat * 2)).block, (ad.add (z.toNat * 2)).off + 1, none⟩ = some (Value.slice e.A e.n e.c) := by
  obtain ⟨ad2, h1, _, h2⟩ := at_row h i z hz hi
  cases h1
  rw [he] at h2
  exact h2
theorem ac_ready {w W w3 : World} {N c : Nat} {E : Nat → En} {X : Nat → List S36} {Al Am : Option Addr} {cl cm : Nat} {kv : Value} {gl gm : Nat → Cm} (h : Ls w N E X (.slice Al c cl) (.slice Am c cm) gl gm c kv N W) (hb : w.heap.size ≤ w3.heap.size)
    (hk : ∀ b, b < W.heap.size → (∀ e ∈ (List.range N).map E, (enV e).ownBlock ≠ some b) → w3.heap[b]? = W.heap[b]?) (hne : ∀ b, (Value.slice Al c cl).ownBlock = some b → (Value.slice Am c cm).ownBlock ≠ some b) :
    A1 kCm 25 42 w.heap.size (w3.alloc (.cells #[.slice Al c cl, .slice Am c cm] 42)) (w3.alloc (.cells #[.slice Al c cl, .slice Am c cm] 42)) (.slice (some ⟨w3.heap.size, 0, none⟩) 2 2) [⟨Al, c, cl⟩, ⟨Am, c, cm⟩] (fun i => mc 7000 i) 0 :=
  Ls.a1c (vl := .slice none 0 0) (vm := .slice none 0 0) (el := ⟨Al, c, cl⟩) (em := ⟨Am, c, cm⟩) h hk (below_alloc (Below.refl _ _) _) hne (two_row w3 w.heap.size 42 ⟨Al, c, cl⟩ ⟨Am, c, cm⟩ hb) ⟨rfl, rfl⟩
theorem ac_small {Al Am : Option Addr} {c cl cm : Nat} (h : c ≤ 1048577) : ∀ e ∈ ([⟨Al, c, cl⟩, ⟨Am, c, cm⟩] : List En), e.n ≤ 1000000000000 := by
  intro e he
  rcases List.mem_cons.1 he with rfl | he
  · exact Nat.le_trans h (by decide)
  · rcases List.mem_cons.1 he with rfl | he
    · exact Nat.le_trans h (by decide)
    · cases he
set_option maxRecDepth 100000 in
set_option maxHeartbeats 8000000 in
theorem walk (s : ByteArray) (w : World) (hs : s.size ≤ 1048576) :
    Calls Try.prog 6 #[.string s] w fun e w' => e = .returned (.bool true) ∧ Below w.heap.size w w' := by
  obtain ⟨st, ws, e0, hT⟩ : ∃ st ws e0, told (decC s) = (st, ws, e0) := ⟨_, _, _, rfl⟩
  obtain ⟨l, e1, hF⟩ : ∃ l e1, toldF (frmC s) = (l, e1) := ⟨_, _, rfl⟩
  have hws : ws.length ≤ 128 := by have := told_len s; rw [hT] at this; exact this
  have hll : (∀ x ∈ l, x.f1.length ≤ 128) ∧ l.length ≤ s.size + 1 := by have := frm_all s; rw [hF] at this; exact this
  have HWS := Aside0.mk hws
  have HLL : Aside0 (l.length ≤ 1048577) := ⟨by omega⟩
  have HL1 := Aside0.mk hll.1
  have HD : Aside0 (∀ w : World, Calls Try.prog 13 #[.string s] w fun e w' => ∃ A c, e = .returned (.tuple #[.agg #[.int .u64 st, .slice A ws.length c], .int .i64 e0]) ∧ Kd.R k36 36 w' w.heap.size (fun _ => True) (.slice A ws.length c) ws ∧ Below w.heap.size w w') := ⟨fun w => (HDecW.dec_any s w (by omega)).mono (by
    rw [hT]
    rintro e w' ⟨u, he, ho, hb⟩
    obtain ⟨A, c, rfl⟩ := Kd.R_slice ho
    exact ⟨A, c, he, ho, hb⟩)⟩
  have HF : Aside0 (∀ w : World, Calls Try.prog 15 #[.string s] w fun e w' => ∃ v, e = .returned (.tuple #[v, .int .i64 e1]) ∧ Kd.S k25 25 w' w.heap.size (fun _ => True) v l ∧ Below w.heap.size w w') := ⟨fun w => (HFrmW.frm_any s w (by omega)).mono (by
    rw [hF]
    exact fun e w' h => h)⟩
  have HSA := Aside0.mk (HWrites.same_is st ws (by omega) (ws.length + 2) (by omega))
  have T1 := Aside0.mk trivial
  have T2 := Aside0.mk trivial
  have F1 := Aside0.mk trivial
  have F2 := Aside0.mk trivial
  clear hws hll
  go_enter Try.func6, Try.ntmps6
  go_wp2_with (first
    | (go_at_call 13; have _t := T1; clear _t T1; go_loud (refine (HD.out _).mono ?_; rintro e wa ⟨Aa, ca, rfl, ho, hb⟩; have HA := Aside0.mk (Bx.start (w := w) (st := st) (Nat.le_refl _) ho); have HB := Aside0.mk (below_alloc hb (.cells #[.int .u64 st, .slice Aa ws.length ca] 25)); have HZ1 : Aside0 (wa.heap.size ≤ (wa.alloc (.cells #[.int .u64 st, .slice Aa ws.length ca] 25)).heap.size) := ⟨by simp⟩; clear ho hb))
    | (go_at_call 13; have _t := T2; clear _t T2; go_loud (refine (HD.out _).mono ?_; rintro e wb ⟨Ab, cb, rfl, ho, hb⟩; have HB2 := Aside0.mk (Bx.start (w := w) (st := st) HB.out.size ho); have hb2 := below_alloc hb (.cells #[.int .u64 st, .slice Ab ws.length cb] 25); have HA := Aside0.mk (HA.out.below hb2); have HB := Aside0.mk (below_step HB.out hb2); have HZ2 := Aside0.mk hb.size; have HZ3 : Aside0 (wb.heap.size ≤ (wb.alloc (.cells #[.int .u64 st, .slice Ab ws.length cb] 25)).heap.size) := ⟨by simp⟩; clear ho hb hb2))
    | (go_at_call 15; have _t := F1; clear _t F1; go_loud (refine (HF.out _).mono ?_; rintro e wl ⟨v, rfl, ho, hb⟩; obtain ⟨⟨Al, nl, cl⟩, gl, fl, e2, hL⟩ := Lx.start HB.out.size ho; have hn : nl = l.length := hL.n; subst hn; have e3 : v = Value.slice Al l.length cl := e2; subst e3; have HL := Aside0.mk hL; have HA := Aside0.mk (HA.out.below hb); have HB2 := Aside0.mk (HB2.out.below hb); have HB := Aside0.mk (below_step HB.out hb); have HZ4 := Aside0.mk hb.size; clear ho hb hL e2))
    | (go_at_call 15; have _t := F2; clear _t F2; go_loud (refine (HF.out _).mono ?_; rintro e wm ⟨v, rfl, ho, hb⟩; obtain ⟨⟨Am, nm, cm⟩, gm, fm, e2, hM⟩ := Lx.start HB.out.size ho; have hn : nm = l.length := hM.n; subst hn; have e3 : v = Value.slice Am l.length cm := e2; subst e3; have HM := Aside0.mk hM; have HL := Aside0.mk (HL.out.below hb); have HA := Aside0.mk (HA.out.below hb); have HB2 := Aside0.mk (HB2.out.below hb); have HB := Aside0.mk (below_step HB.out hb); have x0 := HA.out.c0; have x1 : _ = some (Value.slice Aa ws.length ca) := HA.out.c1; have y0 := HB2.out.c0; have y1 : _ = some (Value.slice Ab ws.length cb) := HB2.out.c1; clear ho hb hM e2))
    | (go_at_call 11; go_loud (refine (stratalaw11_sameCommit.calls (ws.length + 2) st Aa ca ws st Ab cb ws true _ (Kd.R_reads' HA.out.own).2.2 (Kd.R_reads' HA.out.own).2.1 (Kd.R_reads' HB2.out.own).2.2 (Kd.R_reads' HB2.out.own).2.1 HSA.out).mono ?_; rintro e wn ⟨rfl, hd⟩; have HM := Aside0.mk (HM.out.below hd); have HL := Aside0.mk (HL.out.below hd); have HA := Aside0.mk (HA.out.below hd); have HB2 := Aside0.mk (HB2.out.below hd); have HB := Aside0.mk (below_step HB.out hd); clear x0 x1 y0 y1; have x1 : _ = some (Value.slice Aa ws.length ca) := HA.out.c1; have y1 : _ = some (Value.slice Ab ws.length cb) := HB2.out.c1; clear hd)))
  have HQ0 := Aside0.mk (gather (HA.out.below (below_alloc (Below.refl _ _) (.cells #[.slice Aa ws.length ca, .slice Ab ws.length cb] 23))) (HB2.out.below (below_alloc (Below.refl _ _) _)) (HL.out.below (below_alloc (Below.refl _ _) _)) (HM.out.below (below_alloc (Below.refl _ _) _)) (below_alloc HB.out _) (two_row wn w.heap.size 23 ⟨Aa, ws.length, ca⟩ ⟨Ab, ws.length, cb⟩ HB.out.size))
  have HAP := Aside0.mk (aparts HA.out HB2.out HL.out HM.out HZ1.out HZ3.out (Nat.le_refl _) HZ2.out HZ4.out)
  have HLN := Aside0.mk (lens HA.out HB2.out HL.out HM.out)
  have HNE : Aside0 (∀ b, (Value.slice Al l.length cl).ownBlock = some b → (Value.slice Am l.length cm).ownBlock ≠ some b) := ⟨fun b h1 h2 => by
    have h3 := (HL.out.orng b h1).2
    have h4 := (HM.out.orng b h2).1
    omega⟩
  have HGL : Aside0 (∀ i x, l[i]? = some x → (gl i).f0 = x.f0 ∧ (gl i).e.n = x.f1.length ∧ (gm i).f0 = x.f0 ∧ (gm i).e.n = x.f1.length) := ⟨fun i x hx => ⟨(HL.out.own i x hx).1, (HL.out.own i x hx).2.1, (HM.out.own i x hx).1, (HM.out.own i x hx).2.1⟩⟩
  obtain ⟨E, hE⟩ : ∃ E, E = Ep ⟨Aa, ws.length, ca⟩ ⟨Ab, ws.length, cb⟩ gl gm := ⟨_, rfl⟩
  rw [← hE] at HQ0 HAP HLN
  have HE1 : Aside0 (∀ i, E (2 + 2 * i) = (gl i).e) := ⟨fun i => by rw [hE, Ep_l]⟩
  have HE2 : Aside0 (∀ i, E (2 + 2 * i + 1) = (gm i).e) := ⟨fun i => by rw [hE, show 2 + 2 * i + 1 = 3 + 2 * i by omega, Ep_m]⟩
  have hq0 : Ls w (2 + 2 * l.length) E (Xp ws l) (.slice Al l.length cl) (.slice Am l.length cm) gl gm l.length (.slice (some ⟨wn.heap.size, 0, none⟩) 2 2) (2 + 2 * 0) (wn.alloc (.cells #[.slice Aa ws.length ca, .slice Ab ws.length cb] 23)) := HQ0.out
  have HQ := Aside0.mk hq0
  clear hq0 HQ0 hE x1 y1 HA HB2 HL HM HB HZ1 HZ2 HZ3 HZ4
  go_wp2
  go_loopg [12, 13] (l.length + 1) (fun gk v12 v13 wr => ∃ (i : Nat) (z : Int), v13 = .int .i64 z ∧ Aside0 (z = (i : Int) ∧ i ≤ l.length ∧ l.length < i + gk) ∧ Aside0 (Ls w (2 + 2 * l.length) E (Xp ws l) (.slice Al l.length cl) (.slice Am l.length cm) gl gm l.length v12 (2 + 2 * i) wr))
  case atStart => exact ⟨0, _, rfl, ⟨rfl, by omega, by omega⟩, HQ⟩
  case round =>
    clear HQ
    obtain ⟨i, z, rfl, HI, HQ⟩ := hrel
    by_cases hz : z < (l.length : Int)
    · have d0 : decide (z < (l.length : Int)) = true := decide_eq_true hz
      have HZ := Aside0.mk hz
      have q0 : (z < (l.length : Int)) = True := eq_true hz
      have p0 : (0 ≤ z) = True := eq_true (by have := HI.out; omega)
      obtain ⟨x, hx⟩ : ∃ x, l[i]? = some x := ⟨_, List.getElem?_eq_getElem (by have := HI.out; omega)⟩
      obtain ⟨k1, k2, k3, k4⟩ := HGL.out i x hx
      have e1 := HE1.out i
      have e2 := HE2.out i
      have HQ := Aside0.mk (HQ.out.below (below_drew (Below.refl _ _)))
      obtain ⟨ad, hA, m0, m1⟩ := at_row HQ.out.l i z HI.out.1 (by have := HI.out; omega)
      obtain ⟨bd, hB, n0, n1⟩ := at_row HQ.out.m i z HI.out.1 (by have := HI.out; omega)
      cases hA
      cases hB
      obtain ⟨⟨gA, gn, gc⟩, hge⟩ : ∃ e, (gl i).e = e := ⟨_, rfl⟩
      obtain ⟨⟨mA, mn, mc⟩, hme⟩ : ∃ e, (gm i).e = e := ⟨_, rfl⟩
      rw [hge] at k2 e1 m1
      rw [hme] at k4 e2 n1
      rw [k1] at m0
      rw [k3] at n0
      have k2' : gn = x.f1.length := k2
      have k4' : mn = x.f1.length := k4
      subst k2'
      subst k4'
      have a1 : World.cell? _ ⟨(ad.add (z.toNat * 2)).block, (ad.add (z.toNat * 2)).off + 1, none⟩ = some (Value.slice gA x.f1.length gc) := m1
      have b1 : World.cell? _ ⟨(bd.add (z.toNat * 2)).block, (bd.add (z.toNat * 2)).off + 1, none⟩ = some (Value.slice mA x.f1.length mc) := n1
      have HX := Aside0.mk hx
      have HX1 : Aside0 (x.f1.length ≤ 128) := ⟨HL1.out x (List.mem_of_getElem? hx)⟩
      have HG1 := Aside0.mk hge
      have HG2 := Aside0.mk hme
      have HV1 := Aside0.mk e1
      have HV2 := Aside0.mk e2
      have HO1 : Aside0 (Kd.R k36 36 wr.drew w.heap.size (fun _ => True) (.slice gA x.f1.length gc) x.f1) := ⟨by
        have := HQ.out.own (2 + 2 * i) (by have := HI.out; have := HZ.out; omega)
        rw [e1, Xp_l ws l i x hx] at this
        exact this⟩
      have HO2 : Aside0 (Kd.R k36 36 wr.drew w.heap.size (fun _ => True) (.slice mA x.f1.length mc) x.f1) := ⟨by
        have := HQ.out.own (3 + 2 * i) (by have := HI.out; have := HZ.out; omega)
        rw [show 3 + 2 * i = 2 + 2 * i + 1 by omega, e2, show 2 + 2 * i + 1 = 3 + 2 * i by omega, Xp_m ws l i x hx] at this
        exact this⟩
      clear hz hx hge hme e1 e2 k1 k2 k3 k4 m1 n1
      go_wp2
      go_still_tail 8, (by kernel_rfl)
      change wpList _ _ _ _ _ wr.drew
      go_wp2_with (first | (go_at_call 11; go_loud (refine (stratalaw11_sameCommit.calls (x.f1.length + 2) x.f0 gA gc x.f1 x.f0 mA mc x.f1 true _ (Kd.R_reads' HO1.out).2.2 (Kd.R_reads' HO1.out).2.1 (Kd.R_reads' HO2.out).2.2 (Kd.R_reads' HO2.out).2.1 (HWrites.same_is x.f0 x.f1 (by have := HX1.out; omega) _ (by omega))).mono ?_; rintro e w2 ⟨rfl, hd⟩; have HQ := Aside0.mk (HQ.out.below hd); clear hd m0 n0 a1 b1 HO1 HO2)))
      have HQ := Aside0.mk (HQ.out.below (below_drew (Below.refl _ _)))
      obtain ⟨ad2, hA, m0, m1⟩ := at_row HQ.out.l i z HI.out.1 (by have := HI.out; have := HZ.out; omega)
      obtain ⟨bd2, hB, n0, n1⟩ := at_row HQ.out.m i z HI.out.1 (by have := HI.out; have := HZ.out; omega)
      cases hA
      cases hB
      rw [HG1.out] at m1
      rw [HG2.out] at n1
      have a1 : w2.drew.cell? ⟨(ad.add (z.toNat * 2)).block, (ad.add (z.toNat * 2)).off + 1, none⟩ = some (Value.slice gA x.f1.length gc) := m1
      have b1 : w2.drew.cell? ⟨(bd.add (z.toNat * 2)).block, (bd.add (z.toNat * 2)).off + 1, none⟩ = some (Value.slice mA x.f1.length mc) := n1
      clear m0 n0 m1 n1
      have ha : Below w2.drew.heap.size w2.drew (w2.drew.alloc (.cells #[.slice gA x.f1.length gc, .slice mA x.f1.length mc] 23)) := below_alloc (Below.refl _ _) _
      have HS2 : Aside0 ((w2.drew.alloc (.cells #[.slice gA x.f1.length gc, .slice mA x.f1.length mc] 23)).cell? ⟨(ad.add (z.toNat * 2)).block, (ad.add (z.toNat * 2)).off + 1, none⟩ = some (Value.slice gA x.f1.length gc) ∧ (w2.drew.alloc (.cells #[.slice gA x.f1.length gc, .slice mA x.f1.length mc] 23)).cell? ⟨(bd.add (z.toNat * 2)).block, (bd.add (z.toNat * 2)).off + 1, none⟩ = some (Value.slice mA x.f1.length mc)) := ⟨⟨pw_cell_below ha a1, pw_cell_below ha b1⟩⟩
      have HS1 := Aside0.mk (And.intro a1 b1)
      have HIL : Aside0 (i < l.length) := ⟨by have := HI.out; have := HZ.out; omega⟩
      clear ha
      go_region_held3 (fun w' => w'.cell? ⟨(ad.add (z.toNat * 2)).block, (ad.add (z.toNat * 2)).off + 1, none⟩ = some (Value.slice gA x.f1.length gc) ∧ w'.cell? ⟨(bd.add (z.toNat * 2)).block, (bd.add (z.toNat * 2)).off + 1, none⟩ = some (Value.slice mA x.f1.length mc))
        (first | exact HS3.out | exact HS1.out | exact HS2.out)
        (first | (go_loud (refine Kd.R_append_rows_step kEn (w0 := w) w.heap.size (by simp [Region.wanted]) (.tmp 92) (.tmp 103) 48 23 (.slice none 0 0) 24 rfl Try.underlying48 HApW.infoS rfl (by decide) (by decide) _ ((List.range (2 + 2 * i)).map E) ([⟨gA, x.f1.length, gc⟩, ⟨mA, x.f1.length, mc⟩] : List En) (some ⟨w2.drew.heap.size, 0, none⟩) 2 2 (fun _ => True) (fun _ => False) rfl (by first | rfl | (go_simp; done) | (go_simp; rfl)) ?aO ?aR (fun _ _ h => h) (fun _ h => h.elim) (fun _ _ => trivial) ?aB ?aS ?aL ?_; (case aO => exact Kd.R_alloc HQ.out.row _); (case aR => exact (Kd.R_reads' (two_row w2.drew w.heap.size 23 ⟨gA, x.f1.length, gc⟩ ⟨mA, x.f1.length, mc⟩ HQ.out.bel.size)).2.2); (case aB => exact below_alloc HQ.out.bel _); (case aS => exact (below_alloc HQ.out.bel _).size); (case aL => rw [List.length_map, List.length_range]; have := HI.out; have := HLL.out; omega); intro v6 w6 ho hb hg hat; have hq6 := HQ.out.more hb (World.grownBy.trans (World.grownBy_alloc _ _ _) hg) (by rw [HV1.out, HV2.out]; exact ho); have HQ := Aside0.mk hq6; have HS3 := Aside0.mk (And.intro (cell_row hq6.l i z HI.out.1 HIL.out _ HG1.out) (cell_row hq6.m i z HI.out.1 HIL.out _ HG2.out)); clear ho hb hg hat hq6)))
      go_wp2
      cases gk with
      | zero => exact absurd HI.out.2.2 (by have := HI.out; have := HZ.out; omega)
      | succ k =>
      go_roundg k
      case measure => omega
      case rel => exact ⟨i + 1, _, rfl, ⟨by have := HI.out; have := HZ.out; have := HLL.out; refine ⟨(w64 (by omega) (by omega)).trans (by omega), by omega, by omega⟩⟩, ⟨by have := HQ.out; rwa [show 2 + 2 * i + 2 = 2 + 2 * (i + 1) by omega] at this⟩⟩
    · have d0 : decide (z < (l.length : Int)) = false := decide_eq_false hz
      have hin : i = l.length := by have := HI.out; omega
      rw [hin] at HQ
      clear hz HI hin
      have HXL : Aside0 (∀ e ∈ (List.range (2 + 2 * l.length)).map E, e.n ≤ 1000000000000) := ⟨fun e he => by
        obtain ⟨p, hp, rfl⟩ := List.mem_map.1 he
        have h1 := HLN.out p (List.mem_range.1 hp)
        have h2 : (Xp ws l p).length ≤ 128 := by
          unfold Xp
          split
          · exact HWS.out
          · rw [List.getD_eq_getElem?_getD]
            cases hx : l[(p - 2) / 2]? with
            | none => exact Nat.zero_le _
            | some x => exact HL1.out x (List.mem_of_getElem? hx)
        omega⟩
      have HRD : Aside0 (strataref11_DecodeCommit.f 700 s = some (st, ws, e0)) := ⟨by rw [ref_dec s (by omega) 700 (by omega), hT]⟩
      have HRF : Aside0 (strataref11_FrameCommits.f 1100000 s = some (l, e1)) := ⟨by rw [ref_frm s (by omega) 1100000 (by omega), hF]⟩
      go_wp2_with (first
        | (go_at_call 17; go_loud (refine (HApW.apart_any w.heap.size _ ((List.range (2 + 2 * l.length)).map E) _ ⟨HQ.out.bel.size⟩ ⟨by rw [List.length_map, List.length_range]; have := HLL.out; omega⟩ HXL ⟨HQ.out.a1 HLN.out HAP.out⟩).mono ?_; rintro e w3 ⟨rfl, hb3, hk3⟩; have HK3 := Aside0.mk hk3; have HB := Aside0.mk (HQ.out.bel.trans hb3); clear hb3 hk3))
        | (go_at_call 18; go_loud (refine (HApC.apart_any w.heap.size (.slice (some ⟨w3.heap.size, 0, none⟩) 2 2) [⟨Al, l.length, cl⟩, ⟨Am, l.length, cm⟩] (w3.alloc (.cells #[.slice Al l.length cl, .slice Am l.length cm] 42)) ⟨(below_alloc HB.out (.cells #[.slice Al l.length cl, .slice Am l.length cm] 42)).size⟩ ⟨by simp⟩ ⟨ac_small HLL.out⟩ ⟨ac_ready HQ.out HB.out.size HK3.out HNE.out⟩).mono ?_; rintro e w5 ⟨rfl, hb5, _⟩; have HB := Aside0.mk ((below_alloc HB.out (.cells #[.slice Al l.length cl, .slice Am l.length cm] 42)).trans hb5); clear hb5 HQ HK3 HAP HLN HGL HNE HE1 HE2))
        | (go_at_call 13; go_loud (refine (HD.out _).mono ?_; rintro e wa ⟨Aa, ca, rfl, ho, hb⟩; have HA := Aside0.mk (Bx.start (w := w) (st := st) HB.out.size ho); have HB := Aside0.mk (below_step HB.out (below_alloc hb (.cells #[.int .u64 st, .slice Aa ws.length ca] 25))); clear ho hb))
        | (go_at_call 14; go_loud (refine (strataref11_DecodeCommit.calls 700 s st ws e0 _ HRD.out).mono ?_; rintro e wb ⟨v, rfl, ho, hb⟩; obtain ⟨Ab, cb, rfl⟩ := Kd.R_slice ho; have HB2 := Aside0.mk (Bx.start (w := w) (st := st) HB.out.size ho); have hb2 := below_alloc hb (.cells #[.int .u64 st, .slice Ab ws.length cb] 25); have HA := Aside0.mk (HA.out.below hb2); have HB := Aside0.mk (below_step HB.out hb2); have x0 := HA.out.c0; have x1 : _ = some (Value.slice Aa ws.length ca) := HA.out.c1; clear ho hb hb2))
        | (go_at_call 11; go_loud (refine (stratalaw11_sameCommit.calls (ws.length + 2) st Aa ca ws st Ab cb ws true _ (Kd.R_reads' HA.out.own).2.2 (Kd.R_reads' HA.out.own).2.1 (Kd.R_reads' HB2.out.own).2.2 (Kd.R_reads' HB2.out.own).2.1 HSA.out).mono ?_; rintro e wn ⟨rfl, hd⟩; have HB := Aside0.mk (below_step HB.out hd); clear hd HA HB2 x0 x1))
        | (go_at_call 15; go_loud (refine (HF.out _).mono ?_; rintro e wl ⟨v, rfl, ho, hb⟩; obtain ⟨An, cn, rfl⟩ := Kd.S_slice ho; have HN := Aside0.mk ho; have HB := Aside0.mk (below_step HB.out hb); clear ho hb))
        | (go_at_call 16; go_loud (refine (strataref11_FrameCommits.calls 1100000 s l e1 _ HRF.out).mono ?_; rintro e wq ⟨v, rfl, ho, hb⟩; obtain ⟨Aq, cq, rfl⟩ := Kd.S_slice ho; have HM := Aside0.mk ho; have HN := Aside0.mk (Kd.S_below HN.out hb); have HB := Aside0.mk (below_step HB.out hb); clear ho hb))
        | (go_at_call 12; go_loud (refine (stratalaw11_num.calls _ _ _ rfl).mono ?_; rintro e w9 ⟨rfl, hd⟩; have HN := Aside0.mk (Kd.S_below HN.out hd.below); have HM := Aside0.mk (Kd.S_below HM.out hd.below); have HB := Aside0.mk (below_step HB.out hd.below); clear hd)))
      have HN1 := Aside0.mk (Kd.S_reads' HN.out).2.2
      have HM1 := Aside0.mk (Kd.S_reads' HM.out).2.2
      clear HN HM
      go_loopg [26] (l.length + 1) (fun gk v26 wr => ∃ (i : Nat) (z : Int), v26 = .int .i64 z ∧ Aside0 (z = (i : Int) ∧ i ≤ l.length ∧ l.length < i + gk) ∧ Aside0 (Kd.C k25 wr An l.length l) ∧ Aside0 (Kd.C k25 wr Aq l.length l) ∧ Aside0 (Below w.heap.size w wr))
      case atStart => exact ⟨0, _, rfl, ⟨rfl, by omega, by omega⟩, HN1, HM1, HB⟩
      case round =>
        clear HN1 HM1 HB
        obtain ⟨i, z, rfl, HI, HN, HM, HB⟩ := hrel
        by_cases hz : z < (l.length : Int)
        · have d0 : decide (z < (l.length : Int)) = true := decide_eq_true hz
          have HZ := Aside0.mk hz
          have q0 : (z < (l.length : Int)) = True := eq_true hz
          have p0 : (0 ≤ z) = True := eq_true (by have := HI.out; omega)
          obtain ⟨x, hx⟩ : ∃ x, l[i]? = some x := ⟨_, List.getElem?_eq_getElem (by have := HI.out; omega)⟩
          have HX1 : Aside0 (x.f1.length ≤ 128) := ⟨HL1.out x (List.mem_of_getElem? hx)⟩
          have hrd := rd_at HI.out.1 hx
          have HN := Aside0.mk (Kd.C_below HN.out (below_drew (Below.refl wr.heap.size wr)))
          have HM := Aside0.mk (Kd.C_below HM.out (below_drew (Below.refl wr.heap.size wr)))
          have HB := Aside0.mk (below_drew HB.out)
          obtain ⟨ad, gA, gc, hA, m0, m1, m2, m3⟩ := at_T25 HN.out z (by have := HI.out; omega) hz
          obtain ⟨bd, mA, mc, hB, n0, n1, n2, n3⟩ := at_T25 HM.out z (by have := HI.out; omega) hz
          cases hA
          cases hB
          rw [hrd] at m0 m1 m2 m3 n0 n1 n2 n3
          have HM2 := Aside0.mk m2
          have HM3 := Aside0.mk m3
          have HN2 := Aside0.mk n2
          have HN3 := Aside0.mk n3
          clear hz hx hrd m2 m3 n2 n3
          go_wp2
          go_still_tail 8, (by kernel_rfl)
          change wpList _ _ _ _ _ wr.drew
          go_wp2_with (first | (go_at_call 11; go_loud (refine (stratalaw11_sameCommit.calls (x.f1.length + 2) x.f0 gA gc x.f1 x.f0 mA mc x.f1 true _ HM3.out HM2.out HN3.out HN2.out (HWrites.same_is x.f0 x.f1 (by have := HX1.out; omega) _ (by omega))).mono ?_; rintro e w2 ⟨rfl, hd⟩; have HN := Aside0.mk (Kd.C_below HN.out hd); have HM := Aside0.mk (Kd.C_below HM.out hd); have HB := Aside0.mk (below_step HB.out hd); clear hd m0 m1 n0 n1)))
          cases gk with
          | zero => exact absurd HI.out.2.2 (by have := HI.out; have := HZ.out; omega)
          | succ k =>
          go_roundg k
          case measure => omega
          case rel => exact ⟨i + 1, _, rfl, ⟨by have := HI.out; have := HZ.out; have := HLL.out; refine ⟨(w64 (by omega) (by omega)).trans (by omega), by omega, by omega⟩⟩, HN, HM, HB⟩
        · have d0 : decide (z < (l.length : Int)) = false := decide_eq_false hz
          clear hz HI HN HM
          go_wp2
          go_ret
          exact ⟨rfl, HB.out⟩
end Go.Proofs.Ytlgagjgfenmfeaa.HLent
