/- Several texts of this seat laid together: HBitMj, HBitGq. -/
import Derived.Test.YtbekgkikgcmmaaaDoorHBitM
import Derived.Test.YtbekgkikgcmmaaaDoorHBitN
import Derived.Test.YtbekgkikgcmmaaaDoorHBitGv
import Derived.Test.YtbekgkikgcmmaaaDoorPBitx8
import Derived.Test.YtbekgkikgcmmaaaDoorPBitx9
import Derived.Test.YtbekgkikgcmmaaaDoorPGivx8
/- Several texts of this seat laid together: HBitMk, HBitY. -/
/- marks of the law: every value of a list is written over, and one is laid behind it. -/
set_option linter.unusedVariables false
set_option linter.unusedSimpArgs false
namespace Go.Proofs.YtbekgkikgcmmaaaDoor.HBitMk
open Go.RowKit Go.Proofs.YtbekgkikgcmmaaaDoor.PBit Go.Proofs.YtbekgkikgcmmaaaDoor.HBase Go.Proofs.YtbekgkikgcmmaaaDoorW.PrintWords Go.Proofs.YtbekgkikgcmmaaaDoorW.PrintLast Go.Proofs.YtbekgkikgcmmaaaDoorW.PrintMore Go.Proofs.YtbekgkikgcmmaaaDoor.HCore Go.Proofs.YtbekgkikgcmmaaaDoor.HBitR

/-- The mark. -/
def mkV (m : Int) : S33 := ⟨9, m, ⟨#[109]⟩⟩
theorem store_run {P : Program} {o : Oper} {a : Act} {w w1 : World} {t : TypeId} {x y : Operand} {p v : Value} (ho : o.op = .store t x y) (hx : a.eval x = p) (hy : a.eval y = v) (h : (Instr.storeAt t p v).run P w = .ok () w1) : (execOp a.eval o).run P w = .ok .skip w1 := by
  unfold execOp
  rw [ho]
  simp [hx, hy, h]
/-- Element i of the call's own row is written whole. -/
theorem put33 {W : World} {base g n c : Nat} {xs : List S33} (h : Kd.R k33 33 W base (fun _ => True) (.slice (some ⟨g, 0, none⟩) n c) xs) (i : Nat) (hi : i < n) (x : S33) :
    Kd.R k33 33 (W.setCells g (i * 3) [.int .i64 x.f0, .int .i64 x.f1, .string x.f2]) base (fun _ => True) (.slice (some ⟨g, 0, none⟩) n c) (xs.set i x)
    ∧ W.grownBy (W.setCells g (i * 3) [.int .i64 x.f0, .int .i64 x.f1, .string x.f2]) (some g)
    ∧ ∀ (v : Value), v.cells.toList = [.int .i64 x.f0, .int .i64 x.f1, .string x.f2] → (Instr.storeAt 33 (.pointer (some ⟨g, i * 3, none⟩)) v).run Tryd.prog W = .ok () (W.setCells g (i * 3) [.int .i64 x.f0, .int .i64 x.f1, .string x.f2]) := by
  obtain ⟨hl, hnc, hC⟩ := Kd.R_reads' h
  obtain ⟨ad, cs, e1, e2, e3, e4⟩ := ReadsRow.get_ hC z33 (i : Int) (by omega) (by omega)
  obtain rfl := Option.some.inj e1
  have hs := Kd.R_seg (okp := fun _ => False) (x' := x) (seg := [.int .i64 x.f0, .int .i64 x.f1, .string x.f2]) (j := 0) h (i : Int) (by omega) (by omega) e2 (fun j u hu => by have := e4 j u hu; rwa [add_plain] at this) (show 0 + 3 ≤ 3 by omega) (by
    have e : cs.drop (0 + 3) = [] := List.drop_of_length_le (by rw [e2]; decide)
    show k33.M W base (fun _ => False) x (cs.take 0 ++ [.int .i64 x.f0, .int .i64 x.f1, .string x.f2] ++ cs.drop (0 + 3))
    rw [e]
    exact k33_mkM _ _ _ x) (fun _ hk => hk.elim)
  obtain ⟨hr, hg⟩ := hs
  have hz : ((i : Int).toNat * k33.sz + 0) = i * 3 := rfl
  rw [hz] at hr hg
  have hn : xs.set (i : Int).toNat x = xs.set i x := rfl
  rw [hn] at hr
  obtain ⟨_, inner, ho, hri⟩ := h
  obtain ⟨hin, ho2⟩ := ho
  rcases ho2 with ⟨hv, _⟩ | ⟨g', cap', cur, hv, hb, hh, hnc', hcm, hcs, ht⟩
  · cases hv
  injection hv with ha _ hc
  injection ha with ha
  injection ha with hgg
  subst hgg; subst hc
  have hfit : i * 3 + 3 ≤ cur.size := by
    rw [hcs]
    show i * 3 + 3 ≤ c * 3
    omega
  refine ⟨hr, hg, fun v hv => ?_⟩
  exact run_store_run 33 v _ hh hv (by kernel_rfl) hfit (by intro q hq; simp at hq; rcases hq with rfl | rfl | rfl <;> rfl)
theorem set_take (m : S33) (xs : List S33) (i : Nat) (hi : i < xs.length) : (List.replicate i m ++ xs.drop i).set i m = List.replicate (i + 1) m ++ xs.drop (i + 1) := by
  rw [List.set_append, if_neg (by simp), List.length_replicate, Nat.sub_self, List.drop_eq_getElem_cons hi, List.set_cons_zero, List.replicate_succ', List.append_assoc]
  rfl
/-- append onto one's own row: in its block, or in a new one, and then nothing older is touched. -/
theorem append_keeps {P : Program} {w w' : World} {base : Nat} {t ty e : TypeId} {i : TypeInfo} {z : Value} (ht : P.underlying t = some (.slice e)) (hi : P.info? e = some i) (hz : i.zero = some z)
    {v v' : Value} {n : Nat} {xs : List Value} (hown : w.ownsRow base e i.size v n xs) {a : Addr} {m c : Nat} {news : List Value} (hl : news.length = m * i.size) (hnews : ∀ j u, news[j]? = some u → w.cell? (a.add j) = some u) (h1 : ∀ u ∈ news, u.oneCell' = true)
    (h63 : n + m ≤ maxLen) (hbytes : (n + m) * i.bytes ≤ 140737488355328) (hg : w.grownBy w' v.ownBlock)
    (hr : (Builtin.append_ #[t, t] ty #[v, .slice (some a) m c]).run P w = .ok v' w') : v'.ownBlock = v.ownBlock ∨ ∀ k, k < w.heap.size → w'.heap[k]? = w.heap[k]? := by
  rcases hown.2 with ⟨rfl, rfl⟩ | ⟨g, cap, cur, rfl, hbg, hgg, hnc, hcm, hcs, htake⟩
  · exact Or.inr (fun k hk => hg.block k hk (by simp [Value.ownBlock]))
  · by_cases hroom : n + m ≤ cap
    · have hfit : n * i.size + news.length ≤ cur.size := by rw [hl, hcs, ← Nat.add_mul]; exact Nat.mul_le_mul_right _ hroom
      have hr2 := run_append_room (P := P) w t ty e i ht hi g n cap cur hgg a m c news hl hnews h1 hroom hfit
      rw [hr] at hr2
      injection hr2 with e1 _
      left
      rw [e1]
      rfl
    · have holds : ∀ j u, xs[j]? = some u → w.cell? ((⟨g, 0, none⟩ : Addr).add j) = some u := hown.cells (g := g) rfl
      have hr2 := run_append_grow (P := P) w t ty e i z ht hi hz ⟨g, 0, none⟩ n cap xs hown.1 holds a m c news hl hnews (by omega) (by simp only [maxLen] at h63; omega) (growslice_fits (by omega) hbytes)
      rw [hr] at hr2
      injection hr2 with _ e2
      right
      intro k hk
      rw [e2]
      exact heap_alloc_old w.drew _ hk
section
variable {P : Program} {ops : Array Oper} {rest : List Oper} {o : Oper} {a : Act} {Q : Exit → Act → World → Prop}
theorem append_one_keep {α : Type} (d : Kd α) {w0 W : World} (base : Nat) (hgd : o.guard = none) (s x : Operand) (t e : TypeId) (z : Value) (bytes : Nat)
    (ho : o.op = .call { callee := .builtin .append, args := #[s, x], argTypes := #[t, t] })
    (ht : P.underlying t = some (.slice e)) (hinfo : (P.info? e).map (fun i => (i.zero, i.size, i.bytes)) = some (some z, d.sz, bytes)) (hz : z.cells.size = d.sz) (hs0 : 0 < d.sz) (hb0 : 0 < bytes)
    (v : Value) (xs : List α) (p : α) (cs : List Value) (hs : a.eval s = v) (hx : a.eval x = .slice (some ⟨W.heap.size, 0, none⟩) 1 1) (hp : d.M W base (fun _ => False) p cs)
    (HO : d.R e W base (fun _ => True) v xs) (HB : Below base w0 W) (hbase : base ≤ W.heap.size) (hl : (xs.length + 1) * bytes ≤ 140737488355328)
    (h : ∀ v1 w1, d.R e w1 base (fun _ => True) v1 (xs ++ [p]) → Below base w0 w1 → W.grownBy w1 v.ownBlock → (v1.ownBlock = v.ownBlock ∨ ((∃ b, v1.ownBlock = some b ∧ W.heap.size ≤ b) ∧ ∀ k, k < W.heap.size → w1.heap[k]? = W.heap[k]?)) → wpList P ops Q rest (a.put o.dst v1) w1) :
    wpList P ops Q (o :: rest) a (W.alloc (.cells cs.toArray e)) := by
  obtain ⟨h0, inner, hown, hr⟩ := HO
  obtain ⟨i0, hi, hzz⟩ := Option.map_eq_some_iff.1 hinfo
  simp only [Prod.mk.injEq] at hzz
  obtain ⟨hz0, hz1, hz2⟩ := hzz
  have hlen : xs.length + 1 ≤ 140737488355328 := Nat.le_trans (Nat.le_mul_of_pos_right _ hb0) hl
  have hcs : cs.length = d.sz := d.K_len (d.K_of_M hp)
  have hone := d.K_one (d.K_of_M hp)
  have hnews : ∀ j u, cs[j]? = some u → (W.alloc (.cells cs.toArray e)).cell? ((⟨W.heap.size, 0, none⟩ : Addr).add j) = some u := by
    simpa using World.news_of_block (cs := cs.toArray) (t := e) (fr := (0, 0)) (heap_alloc_new W (.cells cs.toArray e))
  have hown2 : (W.alloc (.cells cs.toArray e)).ownsRow base e d.sz v xs.length inner := World.ownsRow.alloc hown _
  obtain ⟨v1, w1, hrun, hown1, hg1, _, hat⟩ := run_append_own_at (P := P) (W.alloc (.cells cs.toArray e)) base t o.type e i0 z d.sz bytes ht hi hz0 hz1 hz2 hz hs0 v xs.length inner hown2 ⟨W.heap.size, 0, none⟩ 1 1 cs (by rw [hcs]; simp) hnews hone (by simp only [maxLen]; omega) hl (by simp; omega)
  have hk := append_keeps ht hi hz0 (by rw [hz1]; exact hown2) (m := 1) (by rw [hcs, hz1]; simp) hnews hone (by simp only [maxLen]; omega) (by rw [hz2]; exact hl) hg1 hrun
  have hgW : W.grownBy w1 v.ownBlock := World.grownBy.trans (World.grownBy_alloc W _ _) hg1
  have hat1 : v1.ownBlock = v.ownBlock ∨ ∃ b, v1.ownBlock = some b ∧ W.heap.size ≤ b := by
    rcases hat with hat | hat
    · exact .inl hat
    · exact .inr ⟨_, hat, by simp⟩
  have hat2 : v1.ownBlock = v.ownBlock ∨ ((∃ b, v1.ownBlock = some b ∧ W.heap.size ≤ b) ∧ ∀ k, k < W.heap.size → w1.heap[k]? = W.heap[k]?) := by
    rcases hk with hk | hk
    · exact .inl hk
    · rcases hat1 with h1 | h1
      · exact .inl h1
      · exact .inr ⟨h1, fun k hkk => (hk k (by simp; omega)).trans (heap_alloc_old W _ hkk)⟩
  refine wpList_plain hgd fun K hK => ?_
  unfold Oper.wp execOp
  simp only [ho, resolve, invoke, builtin, Sem.run_bind, Sem.run_pure, Result.andThen_ok, List.map_toArray, List.map_cons, List.map_nil, hs, hx, hrun]
  exact hK _ _ (h v1 w1 (Kd.R_appended h0 hr hp (fun _ hk => hk.elim) (fun _ _ => trivial) hown1 hgW hat1) ((HB.alloc hbase _).grown hg1 (by simp; omega) (own_base hown)) hgW hat2)
end
theorem own_form {W : World} {base n c : Nat} {A : Option Addr} {xs : List S33} (h : Kd.R k33 33 W base (fun _ => True) (.slice A n c) xs) : (A = none ∧ n = 0 ∧ c = 0) ∨ ∃ g, A = some ⟨g, 0, none⟩ := by
  obtain ⟨_, inner, ho, _⟩ := h
  rcases ho.2 with ⟨hv, _⟩ | ⟨g, cap, cur, hv, _⟩
  · injection hv with h1 h2 h3
    exact Or.inl ⟨h1, h2, h3⟩
  · injection hv with h1 _ _
    exact Or.inr ⟨g, h1⟩
def ms (n : Nat) (m : Int) : List S33 := List.replicate n (mkV m)
/-- What marks leaves: the list as it was handed in reads as marks; so does what is told, one longer; no other block has been touched. -/
def Marked (base : Nat) (w : World) (v : Value) (n : Nat) (m : Int) (e : Ending) (w' : World) : Prop :=
  ∃ A' c', e = .returned (.slice A' (n + 1) c') ∧ n + 1 ≤ c' ∧ Kd.C k33 w' A' (n + 1) (ms (n + 1) m) ∧ (∀ A c, v = .slice A n c → Kd.C k33 w' A n (ms n m)) ∧ Below base w w' ∧
    (∀ k, k < w.heap.size → some k ≠ v.ownBlock → w'.heap[k]? = w.heap[k]?) ∧ ((Value.slice A' (n + 1) c').ownBlock = v.ownBlock ∨ ∃ b, (Value.slice A' (n + 1) c').ownBlock = some b ∧ w.heap.size ≤ b)
set_option maxRecDepth 100000 in
set_option maxHeartbeats 4000000 in
theorem marks_any (base : Nat) (v : Value) (xs : List S33) (m : Int) (w : World) (hb : Aside0 (base ≤ w.heap.size)) (hl : Aside0 (xs.length ≤ 100)) (HO : Aside0 (Kd.R k33 33 w base (fun _ => True) v xs)) :
    Calls Tryd.prog 22 #[v, .int .i64 m] w fun e w' => Marked base w v xs.length m e w' := by
  have HS : Aside0 (Kd.R k33 33 w base (fun _ => True) v (List.replicate 0 (mkV m) ++ xs.drop 0)) := ⟨by simpa using HO.out⟩
  have HG : Aside0 (w.grownBy w v.ownBlock) := ⟨⟨rfl, rfl, rfl, Nat.le_refl _, fun _ _ _ => rfl⟩⟩
  have HB := Aside0.mk (Below.refl base w)
  obtain ⟨A, c, hv⟩ := Kd.R_slice HO.out
  subst hv
  go_enter Tryd.func22, Tryd.ntmps22
  go_wp2
  go_loopg [5] 110 (fun gk v5 wr => ∃ (i : Nat) (z : Int), v5 = .int .i64 z ∧ Aside0 (z = (i : Int) ∧ i ≤ xs.length ∧ xs.length < i + gk) ∧ Aside0 (Kd.R k33 33 wr base (fun _ => True) (.slice A xs.length c) (List.replicate i (mkV m) ++ xs.drop i)) ∧ Aside0 (w.grownBy wr (Value.slice A xs.length c).ownBlock) ∧ Aside0 (Below base w wr))
  case atStart => exact ⟨0, _, rfl, by have := hl.out; refine ⟨rfl, by omega, by omega⟩, HS, HG, HB⟩
  case round =>
    clear HS HG HB
    obtain ⟨i, z, rfl, HI, HS, HG, HB⟩ := hrel
    have hi := HI.out
    by_cases hz : z < (xs.length : Int)
    · have d0 : decide (z < (xs.length : Int)) = true := decide_eq_true hz
      have p0 : (0 ≤ z) = True := eq_true (by omega)
      have HZ := Aside0.mk hz
      have p1 : (z < (xs.length : Int)) = True := eq_true hz
      obtain ⟨g, hg⟩ : ∃ g, A = some ⟨g, 0, none⟩ := by
        obtain ⟨_, inner, ho, _⟩ := HS.out
        rcases ho.2 with ⟨hv, _⟩ | ⟨g, cap, cur, hv, _⟩
        · injection hv with _ h2 _; omega
        · injection hv with h1 _ _; exact ⟨g, h1⟩
      subst hg
      have HGB : Aside0 (base ≤ g) := ⟨by
        obtain ⟨_, inner, ho, _⟩ := HS.out
        exact own_base ho g rfl⟩
      obtain ⟨q1, q2, q3⟩ := put33 HS.out i (by omega) (mkV m)
      have hst := q3
      rw [set_take _ _ i (by omega)] at q1
      have HQ1 := Aside0.mk q1
      have HQ2 := Aside0.mk q2
      have HQ3 := Aside0.mk q3
      have hz3 : z.toNat = i := by omega
      clear q1 q2 q3 hst hz hi
      go_wp2_with (first | ((with_reducible refine gate_store (t := 33) (p := 16) rfl ?_); go_loud (refine store_event (t := 33) (p := 16) (v := ?vo) (w1 := wr.setCells g (i * 3) [.int .i64 (mkV m).f0, .int .i64 (mkV m).f1, .string (mkV m).f2]) ?hg ?ho ?hn ?hr ?_; (case ho => rfl); (case hg => rfl); (case hn => rfl); (case hr => exact store_run rfl (by first | rfl | (go_simp; done) | (go_simp; rfl)) (by rfl) (HQ3.out _ (by rfl))); intro w6 hw; rw [← hw] at HQ1 HQ2; have HG := Aside0.mk (World.grownBy.trans HG.out (show wr.grownBy w6 (Value.slice (some ⟨g, 0, none⟩) xs.length c).ownBlock from HQ2.out)); have HB := Aside0.mk (HB.out.grown HQ2.out (Nat.le_trans hb.out HB.out.size) (fun k hk => by injection hk with hk; rw [← hk]; exact HGB.out)); clear hw)))
      cases gk with
      | zero => exact absurd HI.out.2.2 (by have := HI.out; have := HZ.out; omega)
      | succ k =>
      go_roundg k
      case measure => omega
      case rel => exact ⟨i + 1, _, rfl, by have := HI.out; have hz := HZ.out; have := hl.out; refine ⟨(w64 (by omega) (by omega)).trans (by omega), by omega, by omega⟩, HQ1, HG, HB⟩
    · have d0 : decide (z < (xs.length : Int)) = false := decide_eq_false hz
      have hin : i = xs.length := by omega
      have HS2 : Aside0 (Kd.R k33 33 wr base (fun _ => True) (.slice A xs.length c) (ms xs.length m)) := ⟨by
        have := HS.out
        rw [hin, List.drop_length, List.append_nil] at this
        exact this⟩
      have hlm : Aside0 ((ms xs.length m).length = xs.length) := ⟨List.length_replicate⟩
      clear HS hz hi hin
      go_wp2_with (first | ((with_reducible refine gate_builtin (b := .append) (xs := #[.tmp 17, .tmp 20]) rfl ?_); go_loud (at_builtin; refine append_one_keep k33 (w0 := w) base rfl (.tmp 17) (.tmp 20) 22 33 (.agg #[(.int .i64 0), (.int .i64 0), (.string ⟨#[]⟩)]) 32 rfl Tryd.underlying22 info33 rfl (by decide) (by decide) (.slice A xs.length c) (ms xs.length m) (mkV m) [.int .i64 9, .int .i64 m, .string ⟨#[109]⟩] rfl (by first | (go_simp; done) | (go_simp; rfl)) ?aP ?aO ?aB ?aS ?aL ?_; (case aP => exact k33_mkM _ _ _ (mkV m)); (case aO => exact HS2.out); (case aB => exact HB.out); (case aS => exact Nat.le_trans hb.out HG.out.size); (case aL => rw [hlm.out]; have := hl.out; omega); intro v2 w2 ho hbb hg hat; have HQ := Aside0.mk ho; have HB2 := Aside0.mk hbb; have HG2 := Aside0.mk (World.grownBy.trans HG.out hg); have HAT := Aside0.mk hat; clear ho hbb hg hat)))
      go_ret
      have hq := HQ.out
      have e1 : ms xs.length m ++ [mkV m] = ms (xs.length + 1) m := (List.replicate_succ' ..).symm
      rw [e1] at hq
      obtain ⟨A', c', e2⟩ := Kd.R_slice hq
      have hlen : (ms (xs.length + 1) m).length = xs.length + 1 := List.length_replicate
      rw [hlen] at e2
      subst e2
      obtain ⟨r1, r2, r3⟩ := Kd.R_reads' hq
      rw [hlen] at r3
      refine ⟨A', c', rfl, r2, r3, ?_, HB2.out, ?_, ?_⟩
      · intro A9 c9 h9
        injection h9 with h1 h2 h3
        subst h1
        rcases HAT.out with hat | ⟨_, hkeep⟩
        · have hA' : ∃ g', A' = some ⟨g', 0, none⟩ := by
            rcases own_form hq with ⟨_, h, _⟩ | h
            · omega
            · exact h
          obtain ⟨g', rfl⟩ := hA'
          rcases own_form HS2.out with ⟨rfl, _, _⟩ | ⟨g, rfl⟩
          · simp [Value.ownBlock] at hat
          · have hgg : g' = g := by simpa [Value.ownBlock] using hat
            subst hgg
            have h7 : Kd.C k33 w2 (some ⟨g', 0, none⟩) (ms (xs.length + 1) m).length (ms (xs.length + 1) m) := by rw [hlen]; exact r3
            have h8 := Kd.C_take (m := xs.length) h7 (by rw [hlen]; omega)
            have h9 : (ms (xs.length + 1) m).take xs.length = ms xs.length m := by
              unfold ms
              rw [List.take_replicate, Nat.min_eq_left (by omega)]
            rw [h9, hlm.out] at h8
            exact h8
        · have h7 := (Kd.R_reads' (Kd.R_step HS2.out (fun k _ hk => hkeep k hk))).2.2
          rw [hlm.out] at h7
          exact h7
      · intro k hk hne
        exact HG2.out.block k hk hne
      · rcases HAT.out with hat | ⟨⟨b, hb2, hle⟩, _⟩
        · exact Or.inl hat
        · exact Or.inr ⟨b, hb2, Nat.le_trans HG.out.size hle⟩
end Go.Proofs.YtbekgkikgcmmaaaDoor.HBitMk

/- What the law's own functions answer on lists: may, room, same; the sizes of keys and rows. -/
set_option linter.unusedVariables false
set_option linter.unusedSimpArgs false
namespace Go.Proofs.YtbekgkikgcmmaaaDoor.HBitY
open Go.RowKit Go.Proofs.YtbekgkikgcmmaaaDoor.PBit Go.Proofs.YtbekgkikgcmmaaaDoor.HBase Go.Proofs.YtbekgkikgcmmaaaDoor.HUv Go.Proofs.YtbekgkikgcmmaaaDoorW.PrintWords Go.Proofs.YtbekgkikgcmmaaaDoorW.PrintLast Go.Proofs.YtbekgkikgcmmaaaDoor.HCore Go.Proofs.YtbekgkikgcmmaaaDoor.HCanon Go.Proofs.YtbekgkikgcmmaaaDoor.HBitK Go.Proofs.YtbekgkikgcmmaaaDoor.HBitW Go.Proofs.YtbekgkikgcmmaaaDoor.HBitE Go.Proofs.YtbekgkikgcmmaaaDoor.HBitF Go.Proofs.YtbekgkikgcmmaaaDoor.HBitX Go.Proofs.YtbekgkikgcmmaaaDoor.HGx Go.Proofs.YtbekgkikgcmmaaaDoor.HBitQ Go.Proofs.YtbekgkikgcmmaaaDoor.HBitU Go.Proofs.YtbekgkikgcmmaaaDoor.HBitO

theorem may_step (x : S33) (hr : -9223372036854775808 ≤ x.f1 ∧ x.f1 ≤ 9223372036854775807) (v : Option Bool) :
    (if x.f0 = 0 then (if x.f1 = 0 then (if (x.f2.toList = ([] : List UInt8)) then v else (some false)) else (some false)) else (if x.f0 = 1 then (if x.f1 = 0 then (if (x.f2.toList = ([] : List UInt8)) then v else (some false)) else (if x.f1 = 1 then (if (x.f2.toList = ([] : List UInt8)) then v else (some false)) else (some false))) else (if x.f0 = 2 then (if (x.f2.toList = ([] : List UInt8)) then v else (some false)) else (if x.f0 = 3 then (if x.f1 = 0 then (if ((x.f2.size : Int) ≤ 4096) then v else (some false)) else (some false)) else (some false))))) = if chk1 x = 0 then v else some false := by
  obtain ⟨e1, e2⟩ := wr1 hr
  obtain ⟨f0, f1, f2⟩ := x
  dsimp only at hr e1 e2 ⊢
  have h6 : f0 = 0 ∨ f0 = 1 ∨ f0 = 2 ∨ f0 = 3 ∨ f0 < 0 ∨ 4 ≤ f0 := by omega
  have hz : f2.toList = ([] : List UInt8) → f2.size = 0 := emp f2
  unfold chk1 vld
  dsimp only
  generalize IntKind.u64.wrap f1 = u at e1 e2
  rcases h6 with rfl | rfl | rfl | rfl | h | h
  · by_cases b : f2.toList = ([] : List UInt8)
    · have := hz b
      by_cases a : f1 = 0 <;> simp [a, b, e1, this, List.isEmpty_iff]
    · by_cases a : f1 = 0 <;> simp [a, b, e1, List.isEmpty_iff]
  · by_cases b : f2.toList = ([] : List UInt8)
    · have := hz b
      by_cases a : f1 = 0 <;> by_cases c : f1 = 1 <;> simp [a, b, c, e2, this, List.isEmpty_iff]
    · by_cases a : f1 = 0 <;> by_cases c : f1 = 1 <;> simp [a, b, c, e2, List.isEmpty_iff]
  · by_cases b : f2.toList = ([] : List UInt8)
    · have := hz b
      simp [b, this, List.isEmpty_iff]
    · simp [b, List.isEmpty_iff]
  · by_cases a : f1 = 0
    · by_cases c : 4096 < (f2.size : Int)
      · have c2 : ¬ (f2.size : Int) ≤ 4096 := by omega
        simp [a, e1.2 a, c, c2]
      · have c2 : (f2.size : Int) ≤ 4096 := by omega
        simp [a, e1.2 a, c, c2]
    · have : ¬ u < 1 := fun h => a (e1.1 h)
      simp [a, this]
  · rw [if_pos h, if_neg (by omega), if_neg (by omega), if_neg (by omega), if_neg (by omega), if_neg (by decide)]
  · rw [if_neg (by omega), if_neg (by omega), if_neg (by omega), if_neg (by omega), if_neg (by omega)]
theorem may_l (l : List S33) (hl : l.length ≤ 16) (hr : inr l) : ∀ (d i : Nat), l.length = i + d → stratalaw01_may.l0 (d + 1) l (i : Int) = some (decide (chkL (l.drop i) = 0))
  | 0, i, h => by
    rw [stratalaw01_may.l0, if_neg (by omega), List.drop_eq_nil_of_le (by omega)]
    rfl
  | d + 1, i, h => by
    have hi : i < l.length := by omega
    have e2 : wrap64 ((i : Int) + 1) = ((i + 1 : Nat) : Int) := (w64 (by omega) (by omega)).trans (by omega)
    rw [stratalaw01_may.l0, if_pos (by omega), if_pos (by omega), e2, may_l l hl hr d (i + 1) (by omega), may_step _ (hr _ (rd_mem l i hi).1), chkL_at l i hi]
    by_cases hc : chk1 (rd_T33 l (i : Int)) = 0
    · rw [if_pos hc, if_pos hc]
    · rw [if_neg hc, if_neg hc, decide_eq_false hc]
theorem may_is (l : List S33) (hr : inr l) (k : Nat) (hk : 18 ≤ k) : stratalaw01_may.f k l = some (decide (chk l = 0)) := by
  unfold stratalaw01_may.f chk
  by_cases hl : (l.length : Int) > 16
  · rw [if_pos hl, if_pos (by omega)]
    rfl
  · rw [if_neg hl, if_neg (by omega)]
    have h := may_l l (by omega) hr l.length 0 (by omega)
    rw [show k = (l.length + 1) + (k - (l.length + 1)) by omega]
    exact at_rounds (f := fun k => stratalaw01_may.l0 k l 0) (fun k => stratalaw01_may.mono_l k l 0) h _
theorem key_size (l : List S33) : (keyB l).size ≤ 160000 := by
  unfold keyB
  by_cases h : chk l = 0
  · obtain ⟨hl, hc⟩ := chk_all h
    rw [if_pos h, strOfNums_len]
    have := flat_len kb l (fun x hx => kb_len (hc x hx))
    omega
  · rw [if_neg h]
    exact Nat.zero_le _
theorem row_size (l : List S33) : (rowB l).size ≤ 160100 := by
  unfold rowB
  by_cases h : chk l = 0
  · obtain ⟨hl, hc⟩ := chk_all h
    rw [if_pos h, strOfNums_len, List.length_append, hdl_len]
    have := flat_len cb l (fun x hx => cb_len (hc x hx))
    omega
  · rw [if_neg h]
    exact Nat.zero_le _
theorem rkey (s : ByteArray) (hs : s.size ≤ 140737488351232) (k : Nat) : HGiv.bits_ReadKey.f k s = some (krun s 17 0 []) := by
  unfold HGiv.bits_ReadKey.f HBitK.bits_ReadKey.f
  rw [if_pos (by omega)]
theorem rrw (s : ByteArray) (hs : s.size ≤ 140737488351232) (k : Nat) : HGiv.bits_ReadRow.f k s = some (rrow s) := by
  unfold HGiv.bits_ReadRow.f HBitW.bits_ReadRow.f
  rw [if_pos (by omega)]
theorem kfor (l : List S33) (hr : inr l) (k : Nat) : bits_Key.f k l = some (keyB l, chk l) := if_pos (all_of hr)
theorem rfor (l : List S33) (hr : inr l) (k : Nat) : bits_Row.f k l = some (rowB l, chk l) := if_pos (all_of hr)
theorem room_l (l : List S33) (hl : l.length < 4398046511104) : ∀ d i : Nat, l.length = i + d → stratalaw01_room.l0 (d + 1) l (l.take i) (i : Int) = some (l ++ [⟨77, 77, ⟨#[109, 97, 114, 107]⟩⟩])
  | 0, i, h => by
    rw [stratalaw01_room.l0, if_neg (by omega), if_pos (by rw [List.length_take]; omega), List.take_of_length_le (by omega)]
  | d + 1, i, h => by
    have hi : i < l.length := by omega
    have e2 : wrap64 ((i : Int) + 1) = ((i + 1 : Nat) : Int) := (w64 (by omega) (by omega)).trans (by omega)
    rw [stratalaw01_room.l0, if_pos (by omega), if_pos (by omega), if_pos (by rw [List.length_take]; omega), e2]
    have e := (rd_mem l i hi).2
    rw [show (⟨(rd_T33 l (i : Int)).f0, (rd_T33 l (i : Int)).f1, (rd_T33 l (i : Int)).f2⟩ : S33) = rd_T33 l (i : Int) from rfl, ← e]
    exact room_l l hl d (i + 1) (by omega)
theorem room_is (l : List S33) (hl : l.length < 4398046511104) (k : Nat) (hk : l.length + 1 ≤ k) : stratalaw01_room.f k l = some (l ++ [⟨77, 77, ⟨#[109, 97, 114, 107]⟩⟩]) := by
  rw [show k = (l.length + 1) + (k - (l.length + 1)) by omega]
  exact at_rounds (f := fun k => stratalaw01_room.f k l) (fun k => stratalaw01_room.mono l k) (room_l l hl l.length 0 (by omega)) _
theorem same_l (l : List S33) (hl : l.length < 4398046511104) : ∀ (d i : Nat), l.length = i + d → stratalaw01_same.l0 (d + 1) l l (i : Int) = some true
  | 0, i, h => by
    rw [stratalaw01_same.l0, if_neg (by omega)]
  | d + 1, i, h => by
    have e2 : wrap64 ((i : Int) + 1) = ((i + 1 : Nat) : Int) := (w64 (by omega) (by omega)).trans (by omega)
    rw [stratalaw01_same.l0, if_pos (by omega), if_pos (by omega), if_pos (by omega), e2, if_neg (by simp)]
    exact same_l l hl d (i + 1) (by omega)
theorem same_is (l : List S33) (hl : l.length < 4398046511104) (k : Nat) (hk : l.length + 1 ≤ k) : stratalaw01_same.f k l l = some true := by
  rw [show k = (l.length + 1) + (k - (l.length + 1)) by omega]
  refine at_rounds (f := fun k => stratalaw01_same.f k l l) (fun k => stratalaw01_same.mono l l k) ?_ _
  show stratalaw01_same.f (l.length + 1) l l = _
  unfold stratalaw01_same.f
  rw [if_pos rfl]
  exact same_l l hl l.length 0 (by omega)
end Go.Proofs.YtbekgkikgcmmaaaDoor.HBitY

/- Several texts of this seat laid together: HBitKq, HBitGn. -/
/- BitsGiven: what stands while lists are kept, marked, and looked at again. -/
set_option linter.unusedVariables false
set_option linter.unusedSimpArgs false
namespace Go.Proofs.YtbekgkikgcmmaaaDoor.HBitGn
open Go.RowKit Go.Proofs.YtbekgkikgcmmaaaDoor.PBit Go.Proofs.YtbekgkikgcmmaaaDoor.PGiv Go.Proofs.YtbekgkikgcmmaaaDoor.HBase Go.Proofs.YtbekgkikgcmmaaaDoorW.PrintWords Go.Proofs.YtbekgkikgcmmaaaDoorW.PrintLast Go.Proofs.YtbekgkikgcmmaaaDoorW.PrintMore Go.Proofs.YtbekgkikgcmmaaaDoor.HCore Go.Proofs.YtbekgkikgcmmaaaDoor.HBitK Go.Proofs.YtbekgkikgcmmaaaDoor.HBitW Go.Proofs.YtbekgkikgcmmaaaDoor.HBitE Go.Proofs.YtbekgkikgcmmaaaDoor.HBitX Go.Proofs.YtbekgkikgcmmaaaDoor.HGx Go.Proofs.YtbekgkikgcmmaaaDoor.HBitQ Go.Proofs.YtbekgkikgcmmaaaDoor.HBitU Go.Proofs.YtbekgkikgcmmaaaDoor.HBitO Go.Proofs.YtbekgkikgcmmaaaDoor.HBitY Go.Proofs.YtbekgkikgcmmaaaDoor.HBitMk

def markV : S33 := ⟨77, 77, ⟨#[109, 97, 114, 107]⟩⟩
/-- The beginning of a row that is one longer: how the walk cuts it. -/
theorem cut_room {A : Option Addr} {c n n1 : Nat} (hn : n1 = n + 1) (hc : n1 ≤ c) (W : World) : (Instr.slice 22 (.slice A n1 c) none (some (.int .i64 (n : Int))) none).run Tryd.prog W = .ok (.slice A n c) W := by
  obtain ⟨i0, hi0, _⟩ := info_parts info33
  have := cut_to (P := Tryd.prog) 22 33 .i64 Tryd.underlying22 hi0 A n1 c (n : Int) (by omega) (by omega) hc W
  rw [Int.toNat_natCast] at this
  exact this
theorem info22 : (Tryd.prog.info? 22).map (fun i => (i.zero, i.size, i.bytes)) = some (some (.slice none 0 0), 1, 24) := by kernel_rfl
/-- A slice as it stands in a cell. -/
structure En where
  A : Option Addr
  n : Nat
  c : Nat
def enV (e : En) : Value := .slice e.A e.n e.c
theorem en1 (e : En) : (enV e).oneCell' = true := rfl
abbrev kEn : Kd En := Kd.scalar enV en1
/-- What stands while lists are kept: a row of slices, each the call's own, no two of them in one block. -/
structure Kp (w W : World) (kv : Value) (es : List En) : Prop where
  row : Kd.R kEn 22 W w.heap.size (fun _ => True) kv es
  own : ∀ e ∈ es, e.n ≤ 16 ∧ ∃ xs : List S33, xs.length = e.n ∧ Kd.R k33 33 W w.heap.size (fun _ => True) (enV e) xs
  apart : es.Pairwise fun e e' => ∀ b, (enV e).ownBlock = some b → (enV e').ownBlock ≠ some b
  bel : Below w.heap.size w W
theorem Kp.below {w W W' : World} {kv : Value} {es : List En} (h : Kp w W kv es) (hb : Below W.heap.size W W') : Kp w W' kv es :=
  ⟨Kd.R_below h.row hb, fun e he => by
    obtain ⟨h1, xs, h2, h3⟩ := h.own e he
    exact ⟨h1, xs, h2, Kd.R_below h3 hb⟩, h.apart, below_step h.bel hb⟩
theorem Kp.start (w W : World) (hb : Below w.heap.size w W) : Kp w W (.slice none 0 0) [] := ⟨Kd.R_nil _ _ _ _ _, fun e he => (by cases he), List.Pairwise.nil, hb⟩
/-- Lists that are new are kept, too. -/
theorem Kp.more {w W W' : World} {kv kv' : Value} {es fs : List En} (h : Kp w W kv es) (hr : Kd.R kEn 22 W' w.heap.size (fun _ => True) kv' (es ++ fs)) (hg : W.grownBy W' kv.ownBlock) (hb : Below w.heap.size w W')
    (ho : ∀ e ∈ fs, e.n ≤ 16 ∧ ∃ xs : List S33, xs.length = e.n ∧ Kd.R k33 33 W w.heap.size (fun _ => True) (enV e) xs)
    (ha : fs.Pairwise fun e e' => ∀ b, (enV e).ownBlock = some b → (enV e').ownBlock ≠ some b)
    (hn : ∀ e ∈ es, ∀ f ∈ fs, ∀ b, (enV e).ownBlock = some b → (enV f).ownBlock ≠ some b) : Kp w W' kv' (es ++ fs) := by
  have tr : ∀ e : En, (∃ xs : List S33, xs.length = e.n ∧ Kd.R k33 33 W w.heap.size (fun _ => True) (enV e) xs) → ∃ xs : List S33, xs.length = e.n ∧ Kd.R k33 33 W' w.heap.size (fun _ => True) (enV e) xs := fun e ⟨xs, h2, h3⟩ =>
    ⟨xs, h2, Kd.R_mono (Kd.R_grown (Kd.R_apartR h3 h.row (by decide)) hg (fun k hk => hk.2)) (fun _ _ => trivial)⟩
  refine ⟨hr, fun e he => ?_, List.pairwise_append.2 ⟨h.apart, ha, fun e he f hf => hn e he f hf⟩, hb⟩
  rcases List.mem_append.1 he with he | he
  · exact ⟨(h.own e he).1, tr e (h.own e he).2⟩
  · exact ⟨(ho e he).1, tr e (ho e he).2⟩
theorem two_own {w W : World} {A B : Option Addr} {n c d : Nat} {xs ys : List S33} (h1 : Kd.R k33 33 W w.heap.size (fun _ => True) (.slice A n c) xs) (h2 : Kd.R k33 33 W w.heap.size (fun _ => True) (.slice B n d) ys) (hn : n ≤ 16) :
    ∀ e ∈ ([⟨A, n, c⟩, ⟨B, n, d⟩] : List En), e.n ≤ 16 ∧ ∃ xs : List S33, xs.length = e.n ∧ Kd.R k33 33 W w.heap.size (fun _ => True) (enV e) xs := by
  intro e he
  rcases List.mem_cons.1 he with rfl | he
  · exact ⟨hn, xs, (Kd.R_reads' h1).1.symm, h1⟩
  · rcases List.mem_cons.1 he with rfl | he
    · exact ⟨hn, ys, (Kd.R_reads' h2).1.symm, h2⟩
    · cases he
theorem kp_lt {w W : World} {kv : Value} {es : List En} (h : Kp w W kv es) : ∀ e ∈ es, ∀ b, (enV e).ownBlock = some b → b < W.heap.size := fun e he b hb => by
  obtain ⟨_, xs, _, h3⟩ := h.own e he
  exact Kd.R_lt h3 b hb
theorem one_own {w W : World} {A : Option Addr} {n c : Nat} {xs : List S33} (h1 : Kd.R k33 33 W w.heap.size (fun _ => True) (.slice A n c) xs) (hn : n ≤ 16) :
    ∀ e ∈ ([⟨A, n, c⟩] : List En), e.n ≤ 16 ∧ ∃ xs : List S33, xs.length = e.n ∧ Kd.R k33 33 W w.heap.size (fun _ => True) (enV e) xs := by
  intro e he
  rcases List.mem_cons.1 he with rfl | he
  · exact ⟨hn, xs, (Kd.R_reads' h1).1.symm, h1⟩
  · cases he
theorem one_new {es : List En} {A : Option Addr} {n c a0 a1 : Nat} (h0 : ∀ e ∈ es, ∀ b, (enV e).ownBlock = some b → b < a0) (h1 : ∀ b, (Value.slice A n c).ownBlock = some b → a1 ≤ b) (ha : a0 ≤ a1) :
    ∀ e ∈ es, ∀ f ∈ ([⟨A, n, c⟩] : List En), ∀ b, (enV e).ownBlock = some b → (enV f).ownBlock ≠ some b := by
  intro e he f hf b hb hb'
  have := h0 e he b hb
  rcases List.mem_cons.1 hf with rfl | hf
  · have := h1 b hb'
    omega
  · cases hf
theorem two_apart {A B : Option Addr} {n c d a0 a1 : Nat} (h1 : ∀ b, (Value.slice A n c).ownBlock = some b → a0 ≤ b ∧ b < a1) (h2 : ∀ b, (Value.slice B n d).ownBlock = some b → a1 ≤ b) :
    ([⟨A, n, c⟩, ⟨B, n, d⟩] : List En).Pairwise fun e e' => ∀ b, (enV e).ownBlock = some b → (enV e').ownBlock ≠ some b := by
  refine List.Pairwise.cons (fun e he b hb hb' => ?_) (List.Pairwise.cons (fun e he => by cases he) List.Pairwise.nil)
  rcases List.mem_cons.1 he with rfl | he
  · have := h1 b hb
    have := h2 b hb'
    omega
  · cases he
theorem two_new {es : List En} {A B : Option Addr} {n c d a0 a1 : Nat} (h0 : ∀ e ∈ es, ∀ b, (enV e).ownBlock = some b → b < a0) (h1 : ∀ b, (Value.slice A n c).ownBlock = some b → a0 ≤ b ∧ b < a1) (h2 : ∀ b, (Value.slice B n d).ownBlock = some b → a1 ≤ b) (ha : a0 ≤ a1) :
    ∀ e ∈ es, ∀ f ∈ ([⟨A, n, c⟩, ⟨B, n, d⟩] : List En), ∀ b, (enV e).ownBlock = some b → (enV f).ownBlock ≠ some b := by
  intro e he f hf b hb hb'
  have := h0 e he b hb
  rcases List.mem_cons.1 hf with rfl | hf
  · have := h1 b hb'
    omega
  · rcases List.mem_cons.1 hf with rfl | hf
    · have := h2 b hb'
      omega
    · cases hf

theorem add_blk (a : Addr) (n : Nat) : (a.add n).block = a.block := by unfold Addr.add; split <;> rfl
/-- A row of values that is read stays where its block stays. -/
theorem C_stays {W W' : World} {A : Option Addr} {n : Nat} {xs : List S33} (h : Kd.C k33 W A n xs) (hb : ∀ ad, A = some ad → 0 < n → W'.heap[ad.block]? = W.heap[ad.block]?) : Kd.C k33 W' A n xs := by
  refine ⟨h.1, h.2.1, fun hn => ?_⟩
  obtain ⟨ad, e, hc⟩ := h.2.2 hn
  refine ⟨ad, e, fun j p hj => ?_⟩
  obtain ⟨c, h1, h2, h3⟩ := hc j p hj
  obtain rfl := k33_open h2
  exact ⟨_, h1, k33_mk W' p, fun i u hu => (World.cell?_of_block (a := ad.add (j * k33.sz + i)) (by rw [add_blk]; exact hb ad e hn)).trans (h3 i u hu)⟩
theorem C_lt {W : World} {A : Option Addr} {n : Nat} {xs : List S33} (h : Kd.C k33 W A n xs) (hn : 0 < n) : ∀ c b, (Value.slice A n c).ownBlock = some b → b < W.heap.size := by
  intro c b hb
  obtain ⟨ad, e, h0, h1, h2⟩ := at_T33 h 0 (by omega) (by omega)
  subst e
  have hbb : ad.block = b := by simpa [Value.ownBlock] using hb
  have h3 := World.block_lt_of_cell? W _ h0
  rw [add_blk, hbb] at h3
  exact h3
/-- Rows whose elements hold no slices: any block that is not their own may be left out. -/
theorem R_but {W : World} {base : Nat} {v : Value} {xs : List S33} {ok : Nat → Prop} (h : Kd.R k33 33 W base (fun _ => True) v xs) (hk : ∀ k, v.ownBlock = some k → ok k) : Kd.R k33 33 W base ok v xs :=
  ⟨hk, h.2.imp_ (fun p cs hp => by obtain rfl := k33_openM hp; exact k33_mkM _ _ _ p)⟩
theorem R_butE {W : World} {base : Nat} {v : Value} {xs : List En} {ok : Nat → Prop} (h : Kd.R kEn 22 W base (fun _ => True) v xs) (hk : ∀ k, v.ownBlock = some k → ok k) : Kd.R kEn 22 W base ok v xs :=
  ⟨hk, h.2.imp_ (fun p cs hp => hp)⟩
/-- A slice that is marked, and what was told of it. -/
structure Done (W : World) (e g : En) (m : Int) : Prop where
  gn : g.n = e.n + 1
  ec : e.n ≤ e.c
  gc : g.n ≤ g.c
  ce : Kd.C k33 W e.A e.n (ms e.n m)
  cg : Kd.C k33 W g.A g.n (ms g.n m)
theorem Done.stays {W W' : World} {e g : En} {m : Int} (h : Done W e g m) (h1 : ∀ b, (enV e).ownBlock = some b → W'.heap[b]? = W.heap[b]?) (h2 : ∀ b, (enV g).ownBlock = some b → W'.heap[b]? = W.heap[b]?) : Done W' e g m :=
  ⟨h.gn, h.ec, h.gc, C_stays h.ce (fun ad ha _ => h1 _ (by simp [enV, ha, Value.ownBlock])), C_stays h.cg (fun ad ha _ => h2 _ (by simp [enV, ha, Value.ownBlock]))⟩
/-- What stands while the kept lists are marked: those from i on are the call's own still. -/
structure Kq (w W : World) (H0 : Nat) (kv gv : Value) (es gs : List En) (i : Nat) : Prop where
  bel : Below w.heap.size w W
  h0 : H0 ≤ W.heap.size
  krow : Kd.R kEn 22 W w.heap.size (fun _ => True) kv es
  grow : Kd.R kEn 22 W w.heap.size (fun _ => True) gv gs
  kb : ∀ b, kv.ownBlock = some b → b < H0
  gb : ∀ b, gv.ownBlock = some b → H0 ≤ b
  small : ∀ e ∈ es, e.n ≤ 16
  apart : es.Pairwise fun e e' => ∀ b, (enV e).ownBlock = some b → (enV e').ownBlock ≠ some b
  old : ∀ e ∈ es, ∀ b, (enV e).ownBlock = some b → b < H0
  own : ∀ j e, i ≤ j → es[j]? = some e → ∃ xs : List S33, xs.length = e.n ∧ Kd.R k33 33 W w.heap.size (fun _ => True) (enV e) xs
  done : ∀ (j : Nat) e g, es[j]? = some e → gs[j]? = some g → Done W e g ((j : Int) + 1)
  gblk : ∀ (j : Nat) e g, es[j]? = some e → gs[j]? = some g → ∀ b, (enV g).ownBlock = some b → (enV e).ownBlock = some b ∨ H0 ≤ b
  glt : ∀ g ∈ gs, ∀ b, (enV g).ownBlock = some b → b < W.heap.size ∧ gv.ownBlock ≠ some b
theorem Kq.start {w W : World} {kv : Value} {es : List En} (h : Kp w W kv es) : Kq w W W.heap.size kv (.slice none 0 0) es [] 0 :=
  ⟨h.bel, Nat.le_refl _, h.row, Kd.R_nil _ _ _ _ _, Kd.R_lt h.row, fun b hb => by simp [Value.ownBlock] at hb, fun e he => (h.own e he).1, h.apart, kp_lt h,
    fun j e _ he => (h.own e (List.mem_of_getElem? he)).2, fun j e g _ hg => by simp at hg, fun j e g _ hg => by simp at hg, fun g hg => by cases hg⟩
theorem Kq.below {w W W' : World} {H0 i : Nat} {kv gv : Value} {es gs : List En} (h : Kq w W H0 kv gv es gs i) (hb : Below W.heap.size W W') : Kq w W' H0 kv gv es gs i :=
  ⟨below_step h.bel hb, Nat.le_trans h.h0 hb.size, Kd.R_below h.krow hb, Kd.R_below h.grow hb, h.kb, h.gb, h.small, h.apart, h.old,
    fun j e hj he => by obtain ⟨xs, h2, h3⟩ := h.own j e hj he; exact ⟨xs, h2, Kd.R_below h3 hb⟩,
    fun j e g he hg => by obtain ⟨a, b, c, d, f⟩ := h.done j e g he hg; exact ⟨a, b, c, Kd.C_below d hb, Kd.C_below f hb⟩, h.gblk,
    fun g hg b hb2 => ⟨Nat.lt_of_lt_of_le (h.glt g hg b hb2).1 hb.size, (h.glt g hg b hb2).2⟩⟩
/-- A list was marked, and what was told of it is not yet laid by. -/
structure Pend (W : World) (H0 : Nat) (gv : Value) (e g : En) (m : Int) : Prop where
  fin : Done W e g m
  blk : ∀ b, (enV g).ownBlock = some b → (enV e).ownBlock = some b ∨ H0 ≤ b
  lt : ∀ b, (enV g).ownBlock = some b → b < W.heap.size ∧ gv.ownBlock ≠ some b
theorem get_lt {α : Type} {l : List α} {j : Nat} {x : α} (h : l[j]? = some x) : j < l.length := (List.getElem?_eq_some_iff.1 h).1
theorem pair_ne {es : List En} (h : es.Pairwise fun e e' => ∀ b, (enV e).ownBlock = some b → (enV e').ownBlock ≠ some b) {i j : Nat} {e e' : En} (hi : es[i]? = some e) (hj : es[j]? = some e') (hne : i ≠ j) : ∀ b, (enV e).ownBlock = some b → (enV e').ownBlock ≠ some b := by
  intro b hb hb'
  obtain ⟨h1, rfl⟩ := List.getElem?_eq_some_iff.1 hi
  obtain ⟨h2, rfl⟩ := List.getElem?_eq_some_iff.1 hj
  rcases Nat.lt_or_gt_of_ne hne with h3 | h3
  · exact List.pairwise_iff_getElem.1 h i j h1 h2 h3 b hb hb'
  · exact List.pairwise_iff_getElem.1 h j i h2 h1 h3 b hb' hb
theorem Kq.mark {w W W' : World} {H0 i : Nat} {kv gv : Value} {es gs : List En} {e : En} {m : Int} {x : Ending} (h : Kq w W H0 kv gv es gs i) (hl : gs.length = i) (he : es[i]? = some e) (hM : Marked w.heap.size W (enV e) e.n m x W') :
    ∃ g, x = .returned (enV g) ∧ Kq w W' H0 kv gv es gs (i + 1) ∧ Pend W' H0 gv e g m := by
  obtain ⟨A', c', hx, hc', hC, hCe, hB, hkeep, hown⟩ := hM
  obtain ⟨xs, hxs, hR⟩ := h.own i e (Nat.le_refl _) he
  have hsz : W.heap.size ≤ W'.heap.size := hB.size
  have hec : e.n ≤ e.c := by have := (Kd.R_reads' hR).2.1; exact this
  have hlt := C_lt hC (by omega)
  have hko := (Kd.R_apartR h.krow hR (by decide))
  have hgo := (Kd.R_apartR h.grow hR (by decide))
  refine ⟨⟨A', e.n + 1, c'⟩, hx, ⟨h.bel.trans hB, Nat.le_trans h.h0 hsz, ?_, ?_, h.kb, h.gb, h.small, h.apart, h.old, ?_, ?_, h.gblk, fun g hg b hb => ⟨Nat.lt_of_lt_of_le (h.glt g hg b hb).1 hsz, (h.glt g hg b hb).2⟩⟩, ⟨⟨rfl, hec, hc', hCe _ _ rfl, hC⟩, ?_, fun b hb => ⟨hlt c' b hb, ?_⟩⟩⟩
  · exact Kd.R_mono (Kd.R_step hko (fun k hk hk2 => hkeep k hk2 hk.2)) (fun _ _ => trivial)
  · exact Kd.R_mono (Kd.R_step hgo (fun k hk hk2 => hkeep k hk2 hk.2)) (fun _ _ => trivial)
  · intro j e' hj he'
    obtain ⟨ys, hys, hR'⟩ := h.own j e' (by omega) he'
    exact ⟨ys, hys, Kd.R_mono (Kd.R_step (R_but (ok := fun k => some k ≠ (enV e).ownBlock) hR' (fun k hk hk2 => pair_ne h.apart he' he (by omega) k hk hk2.symm)) (fun k hk hk2 => hkeep k hk2 hk)) (fun _ _ => trivial)⟩
  · intro j e' g' he' hg'
    have hj : j < i := by have := get_lt hg'; omega
    refine (h.done j e' g' he' hg').stays (fun b hb => hkeep b ?_ ?_) (fun b hb => hkeep b (h.glt g' (List.mem_of_getElem? hg') b hb).1 ?_)
    · exact Nat.lt_of_lt_of_le (h.old e' (List.mem_of_getElem? he') b hb) h.h0
    · exact fun hb2 => pair_ne h.apart he' he (by omega) b hb hb2.symm
    · intro hb2
      rcases h.gblk j e' g' he' hg' b hb with h3 | h3
      · exact pair_ne h.apart he' he (by omega) b h3 hb2.symm
      · have := h.old e (List.mem_of_getElem? he) b hb2.symm
        omega
  · intro b hb
    rcases hown with h1 | ⟨b', h1, h2⟩
    · exact Or.inl (h1.symm.trans hb)
    · have h3 : some b' = some b := h1.symm.trans hb
      injection h3 with h3
      subst h3
      exact Or.inr (Nat.le_trans h.h0 h2)
  · intro hg
    rcases hown with h1 | ⟨b', h1, h2⟩
    · have h3 : (enV e).ownBlock = some b := h1.symm.trans hb
      have := h.old e (List.mem_of_getElem? he) b h3
      have := h.gb b hg
      omega
    · have h3 : some b' = some b := h1.symm.trans hb
      injection h3 with h3
      subst h3
      have := Kd.R_lt h.grow _ hg
      omega
theorem Kq.push {w W W' : World} {H0 i : Nat} {kv gv gv' : Value} {es gs : List En} {e g : En} (h : Kq w W H0 kv gv es gs (i + 1)) (hl : gs.length = i) (he : es[i]? = some e) (p : Pend W H0 gv e g ((i : Int) + 1))
    (hr : Kd.R kEn 22 W' w.heap.size (fun _ => True) gv' (gs ++ [g])) (hb : Below w.heap.size w W') (hg : W.grownBy W' gv.ownBlock) (hat : gv'.ownBlock = gv.ownBlock ∨ ∃ b, gv'.ownBlock = some b ∧ W.heap.size ≤ b) : Kq w W' H0 kv gv' es (gs ++ [g]) (i + 1) := by
  have hin : ∀ (j : Nat) g', (gs ++ [g])[j]? = some g' → gs[j]? = some g' ∨ (j = i ∧ g' = g) := by
    intro j g' hj
    rcases Nat.lt_or_ge j gs.length with h1 | h1
    · exact Or.inl (by rw [List.getElem?_append_left h1] at hj; exact hj)
    · rw [List.getElem?_append_right h1] at hj
      have h2 := get_lt hj
      simp only [List.length_cons, List.length_nil] at h2
      have h3 : j - gs.length = 0 := by omega
      rw [h3] at hj
      simp at hj
      exact Or.inr ⟨by omega, hj.symm⟩
  have hst : ∀ b, b < W.heap.size → gv.ownBlock ≠ some b → W'.heap[b]? = W.heap[b]? := fun b h1 h2 => hg.block b h1 (fun h3 => h2 h3.symm)
  have hel : ∀ e ∈ es, ∀ b, (enV e).ownBlock = some b → W'.heap[b]? = W.heap[b]? := fun e he b hb => hst b (Nat.lt_of_lt_of_le (h.old e he b hb) h.h0) (fun h3 => by have := h.gb b h3; have := h.old e he b hb; omega)
  have hgv : ∀ g b, b < W.heap.size → gv.ownBlock ≠ some b → (enV g).ownBlock = some b → b < W'.heap.size ∧ gv'.ownBlock ≠ some b := fun g b h1 h2 h3 => ⟨Nat.lt_of_lt_of_le h1 hg.size, fun h4 => by
    rcases hat with h5 | ⟨b', h5, h6⟩
    · exact h2 (h5.symm.trans h4)
    · have h7 : some b' = some b := h5.symm.trans h4
      injection h7 with h7
      omega⟩
  refine ⟨hb, Nat.le_trans h.h0 hg.size, ?_, hr, h.kb, ?_, h.small, h.apart, h.old, ?_, ?_, ?_, ?_⟩
  · have hko : Kd.R kEn 22 W w.heap.size (fun k => some k ≠ gv.ownBlock) kv es := R_butE h.krow (fun k hk hk2 => by have := h.kb k hk; have := h.gb k hk2.symm; omega)
    exact Kd.R_mono (Kd.R_grown hko hg (fun k hk => hk)) (fun _ _ => trivial)
  · intro b hb2
    rcases hat with h1 | ⟨b', h1, h2⟩
    · exact h.gb b (h1.symm.trans hb2)
    · have h7 : some b' = some b := h1.symm.trans hb2
      injection h7 with h7
      have := h.h0
      omega
  · intro j e' hj he'
    obtain ⟨xs, h1, h2⟩ := h.own j e' hj he'
    exact ⟨xs, h1, Kd.R_mono (Kd.R_grown (Kd.R_apartR h2 h.grow (by decide)) hg (fun k hk => hk.2)) (fun _ _ => trivial)⟩
  · intro j e' g' he' hg'
    rcases hin j g' hg' with h1 | ⟨rfl, rfl⟩
    · exact (h.done j e' g' he' h1).stays (hel e' (List.mem_of_getElem? he')) (fun b hb => hst b (h.glt g' (List.mem_of_getElem? h1) b hb).1 (h.glt g' (List.mem_of_getElem? h1) b hb).2)
    · have : e = e' := by rw [he] at he'; injection he'
      subst this
      exact p.fin.stays (hel e (List.mem_of_getElem? he)) (fun b hb => hst b (p.lt b hb).1 (p.lt b hb).2)
  · intro j e' g' he' hg'
    rcases hin j g' hg' with h1 | ⟨rfl, rfl⟩
    · exact h.gblk j e' g' he' h1
    · have : e = e' := by rw [he] at he'; injection he'
      subst this
      exact p.blk
  · intro g' hg' b hb
    rcases List.mem_append.1 hg' with h1 | h1
    · exact hgv g' b (h.glt g' h1 b hb).1 (h.glt g' h1 b hb).2 hb
    · rcases List.mem_cons.1 h1 with rfl | h1
      · exact hgv _ b (p.lt b hb).1 (p.lt b hb).2 hb
      · cases h1
/-- Element i of the kept row, or of the other one. -/
theorem at_En {W : World} {A : Option Addr} {n : Nat} {es : List En} (h : Kd.C kEn W A n es) (i : Nat) (z : Int) (hz : z = (i : Int)) (e : En) (he : es[i]? = some e) : ∃ ad, A = some ad ∧ W.cell? (ad.add z.toNat) = some (enV e) := by
  have hi := get_lt he
  have hn : n = es.length := h.1.symm
  obtain ⟨ad, c, e1, _, hK, hc0⟩ := Kd.C_get h ⟨none, 0, 0⟩ z (by omega) (by omega)
  have h1 : es.getD z.toNat ⟨none, 0, 0⟩ = e := by
    rw [List.getD_eq_getElem?_getD, show z.toNat = i by omega, he]
    rfl
  rw [h1] at hK
  obtain rfl : c = [enV e] := hK
  refine ⟨ad, e1, ?_⟩
  have := hc0 0 (enV e) rfl
  have h2 : z.toNat * kEn.sz + 0 = z.toNat := Nat.mul_one _
  rwa [h2] at this
theorem ms_at (n : Nat) (m : Int) (x : Int) (h0 : 0 ≤ x) (h1 : x < n) : rd_T33 (ms n m) x = mkV m := by
  unfold rd_T33 ms
  rw [List.getD_eq_getElem?_getD, List.getElem?_replicate, if_pos (by omega)]
  rfl
theorem marked_l (n : Nat) (m : Int) : ∀ (k : Nat) (x : Int), 0 ≤ x → x ≤ n → n < 1000 → n < x + k → stratalaw01_marked.l0 k (ms n m) m x = some true
  | 0, x, h0, h1, h2, h3 => by omega
  | k + 1, x, h0, h1, h2, h3 => by
    have hl : (ms n m).length = n := List.length_replicate
    unfold stratalaw01_marked.l0
    rw [hl]
    by_cases hx : x < (n : Int)
    · rw [if_pos hx, if_pos h0, ms_at n m x h0 hx, if_pos (show (mkV m).f1 = m from rfl), if_pos (show (mkV m).f0 = 9 from rfl), if_pos (show (mkV m).f2.toList = [109] from by kernel_rfl), w64 (by omega) (by omega)]
      exact marked_l n m k (x + 1) (by omega) (by omega) h2 (by omega)
    · rw [if_neg hx]
theorem marked_is (n : Nat) (m : Int) (hn : n < 100) : stratalaw01_marked.f 200 (ms n m) m = some true := marked_l n m 200 0 (by omega) (by omega) (by omega) (by omega)
theorem Pend.cast {W : World} {H0 : Nat} {gv : Value} {e g : En} {m m' : Int} (h : Pend W H0 gv e g m) (hm : m = m') : Pend W H0 gv e g m' := hm ▸ h
theorem marked_any (A : Option Addr) (n c : Nat) (m m' : Int) (w : World) (h : Kd.C k33 w A n (ms n m)) (hc : n ≤ c) (hn : n < 100) (hm : m' = m) :
    Calls Tryd.prog 23 #[.slice A n c, .int .i64 m'] w fun e w' => e = .returned (.bool true) ∧ Below w.heap.size w w' := by
  subst hm
  have hl : (ms n m').length = n := List.length_replicate
  have h1 := stratalaw01_marked.calls 200 A c (ms n m') m' true w (by rw [hl]; exact h) (by rw [hl]; exact hc) (marked_is n m' hn)
  rw [hl] at h1
  exact h1.mono fun e w' ⟨h2, h3⟩ => ⟨h2, h3.below⟩
end Go.Proofs.YtbekgkikgcmmaaaDoor.HBitGn

/- BitsGiven walked. -/
set_option linter.unusedVariables false
set_option linter.unusedSimpArgs false
namespace Go.Proofs.YtbekgkikgcmmaaaDoor.HBitGn
open Go.RowKit Go.Proofs.YtbekgkikgcmmaaaDoor.PBit Go.Proofs.YtbekgkikgcmmaaaDoor.PGiv Go.Proofs.YtbekgkikgcmmaaaDoor.HBase Go.Proofs.YtbekgkikgcmmaaaDoorW.PrintWords Go.Proofs.YtbekgkikgcmmaaaDoorW.PrintLast Go.Proofs.YtbekgkikgcmmaaaDoorW.PrintMore Go.Proofs.YtbekgkikgcmmaaaDoor.HCore Go.Proofs.YtbekgkikgcmmaaaDoor.HBitK Go.Proofs.YtbekgkikgcmmaaaDoor.HBitW Go.Proofs.YtbekgkikgcmmaaaDoor.HBitE Go.Proofs.YtbekgkikgcmmaaaDoor.HBitX Go.Proofs.YtbekgkikgcmmaaaDoor.HGx Go.Proofs.YtbekgkikgcmmaaaDoor.HBitQ Go.Proofs.YtbekgkikgcmmaaaDoor.HBitU Go.Proofs.YtbekgkikgcmmaaaDoor.HBitO Go.Proofs.YtbekgkikgcmmaaaDoor.HBitY Go.Proofs.YtbekgkikgcmmaaaDoor.HBitMk

set_option maxRecDepth 100000 in
set_option maxHeartbeats 4000000 in
theorem given_any (A0 : Option Addr) (c0 : Nat) (l : List S33) (w : World) (hT : Aside0 (Tab w)) (hr : Aside0 (Kd.C k33 w A0 l.length l)) (hc : Aside0 (l.length ≤ c0)) (hn : Aside0 (inr l)) (hl : Aside0 (l.length < 4398046511104)) :
    Calls Tryd.prog 6 #[.slice A0 l.length c0] w fun e w' => e = .returned (.bool true) ∧ Below w.heap.size w w' := by
  have hu := Tryd.underlying33
  have HB := Aside0.mk (Below.refl w.heap.size w)
  have hk : stratalaw01_room.f (l.length + 100) l = some (l ++ [markV]) := room_is l hl.out _ (by omega)
  have hm : stratalaw01_may.f (l.length + 100) l = some (decide (chk l = 0)) := may_is l hn.out _ (by omega)
  have HK := Aside0.mk hk
  have HM := Aside0.mk hm
  clear hk hm
  obtain ⟨n1, hn1⟩ : ∃ n1, (l ++ [markV]).length = n1 := ⟨_, rfl⟩
  have htk : Aside0 ((l ++ [markV]).take l.length = l ∧ (l ++ [markV]).length = n1 ∧ n1 = l.length + 1) := ⟨List.take_left, hn1, by rw [← hn1]; simp⟩
  clear hn1
  by_cases h0 : chk l = 0
  · have H0 := Aside0.mk h0
    have hk1 : HGiv.bits_ReadKey.f 0 (keyB l) = some (l, 0) := by rw [rkey _ (by have := key_size l; omega), key_back l h0 hn.out]
    have hk2 : HGiv.bits_ReadRow.f 0 (rowB l) = some (l, 0) := by rw [rrw _ (by have := row_size l; omega), row_back l h0 hn.out]
    have HR1 := Aside0.mk hk1
    have HR2 := Aside0.mk hk2
    have h16 : Aside0 (l.length ≤ 16) := ⟨(chk_all h0).1⟩
    rw [decide_eq_true h0] at HM
    clear h0 hk1 hk2
    go_enter Tryd.func6, Tryd.ntmps6
    go_wp2_with (first
      | (go_at_call 8; refine (stratalaw01_room.calls (l.length + 100) A0 c0 l (l ++ [markV]) _ (Kd.C_below hr.out HB.out) hc.out HK.out).mono ?_; rintro e w1 ⟨v1, rfl, ho, hb⟩; obtain ⟨Ar, cr, er⟩ := Kd.R_slice ho; rw [htk.out.2.1] at er; subst er; obtain ⟨_, r2, r3⟩ := Kd.R_reads' ho; have q5 : (l.length ≤ cr) = True := eq_true (by have := htk.out.2.2; omega); have HRC := Aside0.mk (show Kd.C k33 w1 Ar l.length l from by have := Kd.C_take (m := l.length) r3 (by rw [htk.out.2.1, htk.out.2.2]; omega); rw [htk.out.1] at this; exact this); have HRL := Aside0.mk (show l.length ≤ cr from by have := htk.out.2.2; omega); have HB := Aside0.mk (below_step HB.out hb); clear ho hb r2 r3)
      | (go_at_call 9; refine (bits_Key.calls 0 _ _ l (keyB l) (chk l) _ HRC.out HRL.out (kfor l hn.out 0) (hT.out.below HB.out)).mono ?_; rintro e w2 ⟨he, hb⟩; rw [H0.out] at he; subst he; have HB := Aside0.mk (below_step HB.out hb); clear hb q5 HRC HRL)
      | (go_at_call 12; refine (bits_Row.calls 0 _ _ l (rowB l) (chk l) _ HRC.out HRL.out (rfor l hn.out 0) (hT.out.below HB.out)).mono ?_; rintro e w2 ⟨he, hb⟩; rw [H0.out] at he; subst he; have HB := Aside0.mk (below_step HB.out hb); clear hb q5 HRC HRL)
      | (go_at_call 15; refine (stratalaw01_may.calls (l.length + 100) A0 c0 l true _ (Kd.C_below hr.out HB.out) hc.out HM.out).mono ?_; rintro e w2 ⟨rfl, hb⟩; have HB := Aside0.mk (below_step HB.out hb); clear hb)
      | (go_at_call 11; refine (stratalaw01_num.calls _ _ _ rfl).mono ?_; rintro e w9 ⟨rfl, hd⟩; have HB := Aside0.mk (below_step HB.out hd.below); clear hd))
    go_loopg [7, 8] 5 (fun gk v7 v8 wr => ∃ (i : Nat) (z : Int) (es : List En), v8 = .int .i64 z ∧ Aside0 (z = (i : Int) ∧ i ≤ 4 ∧ 4 < i + gk ∧ es.length ≤ 3 * i) ∧ Aside0 (Kp w wr v7 es))
    case atStart => exact ⟨0, _, [], rfl, ⟨rfl, by omega, by omega, by simp⟩, ⟨Kp.start w _ HB.out⟩⟩
    case round =>
      clear HB
      obtain ⟨i, z, es, rfl, HI, HP⟩ := hrel
      by_cases hz : z < 4
      · have d0 : decide (z < 4) = true := decide_eq_true hz
        have HZ := Aside0.mk hz
        clear hz
        obtain ⟨Ak, ck, hv⟩ := Kd.R_slice HP.out.row
        subst hv
        have HLT : Aside0 (∀ e ∈ es, ∀ b, (enV e).ownBlock = some b → b < wr.heap.size) := ⟨fun e he b hb => by obtain ⟨_, xs, _, h3⟩ := HP.out.own e he; exact Kd.R_lt h3 b hb⟩
        by_cases hl0 : 0 < l.length
        · by_cases h1 : z = 1
          · subst h1
            obtain ⟨l1, hl1⟩ : ∃ l1, l.drop 1 = l1 := ⟨_, rfl⟩
            obtain ⟨A1, hA1⟩ : ∃ A1, (if c0 = 1 then A0 else A0.map (·.add (1 * 3))) = A1 := ⟨_, rfl⟩
            have hll : Aside0 (l1.length = l.length - 1) := ⟨by rw [← hl1, List.length_drop]⟩
            have hcutW : ∀ W : World, (Instr.slice 22 (.slice A0 l.length c0) (some (.int .i64 1)) none none).run Tryd.prog W = .ok (.slice A1 l1.length (c0 - 1)) W := fun W => by
              obtain ⟨i0, hi0, _, hsz, _⟩ := info_parts info33
              have := cut_from (P := Tryd.prog) 22 33 .i64 Tryd.underlying22 hi0 3 hsz A0 l.length c0 1 (by decide) (by omega) W
              rw [hll.out, ← hA1]
              exact this
            have hC1 : Aside0 (Kd.C k33 w A1 l1.length l1) := ⟨by
              have := Kd.C_drop (m := 1) (c := c0) hr.out (by omega) hc.out
              rw [hl1] at this
              rw [← hA1]
              exact this⟩
            have hc1 : Aside0 (l1.length ≤ c0 - 1) := ⟨by have := hll.out; have := hc.out; omega⟩
            have hn1 : Aside0 (inr l1) := ⟨fun x hx => hn.out x (List.mem_of_mem_drop (by rw [hl1]; exact hx))⟩
            have hch : chk l1 = 0 := chk_mk l1 (by have := h16.out; have := hll.out; omega) (fun x hx => (chk_all H0.out).2 x (List.mem_of_mem_drop (by rw [hl1]; exact hx)))
            have H10 := Aside0.mk hch
            have hk3 : HGiv.bits_ReadKey.f 0 (keyB l1) = some (l1, 0) := by rw [rkey _ (by have := key_size l1; omega), key_back l1 hch hn1.out]
            have HR3 := Aside0.mk hk3
            have d2 : (0 < l.length) = True := eq_true hl0
            have d3 : decide (0 < l.length) = true := decide_eq_true hl0
            have HL0 := Aside0.mk hl0
            clear hl0 hl1 hA1 hch hk3
            go_wp2_with (first
              | (have _hm := HQ9; go_at_call 18; refine (HGiv.bits_ReadKey.calls 0 (keyB l1) l1 0 _ HR3.out).mono ?_; rintro e wc ⟨vc, rfl, hoc, hb⟩; obtain ⟨Ac, cc, ec⟩ := Kd.R_slice hoc; subst ec; have HOC := Aside0.mk (Kd.R_lower hoc HP.out.bel.size); have HFC := Aside0.mk (show ∀ b, (Value.slice Ac l1.length cc).ownBlock = some b → wk.heap.size ≤ b from fun b hb9 => Kd.R_base hoc b hb9); have HP := Aside0.mk (HP.out.below hb); clear hoc hb)
              | (have _hm := HOC; go_at_call 11; refine (stratalaw01_num.calls _ _ _ rfl).mono ?_; rintro e w9 ⟨rfl, hd⟩; have HOC := Aside0.mk (Kd.R_below HOC.out hd.below); have HP := Aside0.mk (HP.out.below hd.below); clear hd)
              | (have _hm := HOC; go_at_call 14; refine (stratalaw01_same.calls (l.length + 100) _ _ l1 A1 (c0 - 1) l1 true _ (Kd.R_reads' HOC.out).2.2 (Kd.R_reads' HOC.out).2.1 (Kd.C_below hC1.out HP.out.bel) hc1.out (same_is l1 (by have := hl.out; have := hll.out; omega) _ (by have := hll.out; omega))).mono ?_; rintro e w9 ⟨rfl, hd⟩; have HOC := Aside0.mk (Kd.R_below HOC.out hd.below); have HP := Aside0.mk (HP.out.below hd.below); clear hd)
              | (go_at_call 9; refine (bits_Key.calls 0 A1 (c0 - 1) l1 (keyB l1) (chk l1) _ (Kd.C_below hC1.out HP.out.bel) hc1.out (kfor l1 hn1.out 0) (hT.out.below HP.out.bel)).mono ?_; rintro e wk ⟨he, hb⟩; rw [H10.out] at he; subst he; have HLT2 := Aside0.mk (kp_lt HP.out); have HSZ2 := Aside0.mk hb.size; have HP := Aside0.mk (HP.out.below hb); have HQ9 := Aside0.mk trivial; clear hb)
              | ((with_reducible refine gate_builtin (b := .append) (xs := #[.tmp 139, .tmp 141]) rfl ?_); go_loud (at_builtin; refine Kd.R_append kEn (w0 := w) w.heap.size rfl (.tmp 139) (.tmp 141) 43 22 (.slice none 0 0) 24 rfl Tryd.underlying43 info22 rfl (by decide) (by decide) v6 (es ++ [⟨Aa, l.length, ca⟩, ⟨Ab, l.length, cb⟩]) (⟨Ac, l1.length, cc⟩ : En) [.slice Ac l1.length cc] (fun _ => True) (fun _ => False) rfl (by first | (go_simp; done) | (go_simp; rfl)) ?aP (fun _ hk => hk.elim) ?aF ?aO ?aB ?aS ?aL ?_; (case aP => exact rfl); (case aF => exact (fun _ _ => trivial)); (case aO => exact HP.out.row); (case aB => exact HP.out.bel); (case aS => exact HP.out.bel.size); (case aL => have h9 := HI.out; rw [List.length_append]; simp only [List.length_cons, List.length_nil]; omega); intro v7 w7 ho hb hg hat; have HP := Aside0.mk (HP.out.more ho hg hb (one_own HOC.out (by have := h16.out; have := hll.out; omega)) (List.pairwise_singleton ..) (one_new HLT2.out HFC.out HSZ2.out)); clear ho hb hg hat))
              | (go_at_call 18; refine (HGiv.bits_ReadKey.calls 0 (keyB l) l 0 _ HR1.out).mono ?_; rintro e wa ⟨va, rfl, hoa, hb⟩; obtain ⟨Aa, ca, ea⟩ := Kd.R_slice hoa; subst ea; have HOA := Aside0.mk (Kd.R_lower hoa HP.out.bel.size); have HSZ := Aside0.mk hb.size; have HFA := Aside0.mk (show ∀ b, (Value.slice Aa l.length ca).ownBlock = some b → wr.heap.size ≤ b ∧ b < wa.heap.size from fun b hb9 => ⟨Kd.R_base hoa b hb9, Kd.R_lt hoa b hb9⟩); have HP := Aside0.mk (HP.out.below hb); clear hoa hb)
              | (go_at_call 20; refine (HGiv.bits_ReadRow.calls 0 (rowB l) l 0 _ HR2.out).mono ?_; rintro e wb ⟨vb, rfl, hob, hb⟩; obtain ⟨Ab, cb, eb⟩ := Kd.R_slice hob; subst eb; have HOB := Aside0.mk (Kd.R_lower hob HP.out.bel.size); have HFB := Aside0.mk (show ∀ b, (Value.slice Ab l.length cb).ownBlock = some b → wa.heap.size ≤ b from fun b hb9 => Kd.R_base hob b hb9); have HOA := Aside0.mk (Kd.R_below HOA.out hb); have HP := Aside0.mk (HP.out.below hb); clear hob hb)
              | (go_at_call 11; refine (stratalaw01_num.calls _ _ _ rfl).mono ?_; rintro e w9 ⟨rfl, hd⟩; have HOA := Aside0.mk (Kd.R_below HOA.out hd.below); have HOB := Aside0.mk (Kd.R_below HOB.out hd.below); have HP := Aside0.mk (HP.out.below hd.below); clear hd)
              | (go_at_call 14; refine (stratalaw01_same.calls (l.length + 100) _ _ l A0 c0 l true _ ?s1 ?s2 (Kd.C_below hr.out HP.out.bel) hc.out (same_is l hl.out _ (by omega))).mono ?_; (case s1 => first | exact (Kd.R_reads' HOA.out).2.2 | exact (Kd.R_reads' HOB.out).2.2); (case s2 => first | exact (Kd.R_reads' HOA.out).2.1 | exact (Kd.R_reads' HOB.out).2.1); rintro e w9 ⟨rfl, hd⟩; have HOA := Aside0.mk (Kd.R_below HOA.out hd.below); have HOB := Aside0.mk (Kd.R_below HOB.out hd.below); have HP := Aside0.mk (HP.out.below hd.below); clear hd)
              | ((with_reducible refine gate_dst (N := 104) rfl ?_); go_loud (refine Kd.R_lit kEn _ 22 ?hg (N := 104) ?hd (xs := [⟨Aa, l.length, ca⟩, ⟨Ab, l.length, cb⟩]) (inner := [.slice Aa l.length ca, .slice Ab l.length cb]) (ok := fun _ => True) (okp := fun _ => True) ?hr ?hp (fun _ hk => hk) trivial (Below.refl _ _) (Nat.le_refl _) (by simp) ?_; (case hd => rfl); (case hg => rfl); (case hr => first | (go_simp; done) | (go_simp; rfl)); (case hp => exact (Reps.one (show Kd.M kEn _ _ _ (⟨Aa, l.length, ca⟩ : En) [.slice Aa l.length ca] from rfl) (Reps.one (show Kd.M kEn _ _ _ (⟨Ab, l.length, cb⟩ : En) [.slice Ab l.length cb] from rfl) (Reps.none _ _)))); intro v5 w5 ho5 hb5 hg5 hn5; obtain ⟨A5, c5, e5⟩ := Kd.R_slice ho5; subst e5; have HO := Aside0.mk (Kd.R_mono (Kd.R_elder' HP.out.row (Kd.R_base ho5) hb5) (ok' := fun k_ => some k_ ≠ (.slice A5 ([⟨Aa, l.length, ca⟩, ⟨Ab, l.length, cb⟩] : List En).length c5 : Value).ownBlock) (fun _ hk => hk.2)); have HOA := Aside0.mk (Kd.R_below HOA.out hb5); have HOB := Aside0.mk (Kd.R_below HOB.out hb5); have HP := Aside0.mk (HP.out.below hb5); have HO5 := Aside0.mk ho5; clear ho5 hb5 hg5 hn5))
              | ((with_reducible refine gate_builtin (b := .append) (xs := #[.tmp 101, .tmp 104]) rfl ?_); go_loud (at_builtin; refine Kd.R_append_rows kEn (w0 := w) w.heap.size rfl (.tmp 101) (.tmp 104) 43 22 (.slice none 0 0) 24 rfl Tryd.underlying43 info22 rfl (by decide) (by decide) _ es ([⟨Aa, l.length, ca⟩, ⟨Ab, l.length, cb⟩] : List En) _ _ _ (fun k_ => some k_ ≠ (.slice A5 ([⟨Aa, l.length, ca⟩, ⟨Ab, l.length, cb⟩] : List En).length c5 : Value).ownBlock) (fun _ => False) rfl rfl ?aO ?aR (fun _ _ h => h) (fun _ h => h.elim) ?aF ?aB ?aS ?aL ?_; (case aR => exact (Kd.R_reads' HO5.out).2.2); (case aB => exact HP.out.bel); (case aF => exact (fun k_ hk => Kd.fresh' (Kd.R_lt HO5.out) k_ hk)); (case aO => exact HO.out); (case aS => exact HP.out.bel.size); (case aL => have h9 := HI.out; simp only [List.length_cons, List.length_nil]; omega); intro v6 w6 ho hb hg hat; have HP := Aside0.mk (HP.out.more (Kd.R_mono ho (fun _ _ => trivial)) hg hb (two_own HOA.out HOB.out h16.out) (two_apart HFA.out HFB.out) (two_new HLT.out HFA.out HFB.out HSZ.out)); clear ho hb hg hat)))
            cases gk with
            | zero => exact absurd HI.out.2.2.1 (by have := HI.out; omega)
            | succ k =>
            go_roundg k
            case measure => omega
            case rel => exact ⟨i + 1, _, _, rfl, ⟨by have := HI.out; refine ⟨(by first | exact (w64 (by omega) (by omega)).trans (by omega) | omega), by omega, by omega, by rw [List.length_append, List.length_append]; simp only [List.length_cons, List.length_nil]; omega⟩⟩, HP⟩
          · have d1 : (z == 1) = false := beq_eq_false_iff_ne.2 h1
            have HL0 := Aside0.mk hl0
            have H1 := Aside0.mk h1
            clear hl0 h1
            go_wp2_with (first
              | (go_at_call 18; refine (HGiv.bits_ReadKey.calls 0 (keyB l) l 0 _ HR1.out).mono ?_; rintro e wa ⟨va, rfl, hoa, hb⟩; obtain ⟨Aa, ca, ea⟩ := Kd.R_slice hoa; subst ea; have HOA := Aside0.mk (Kd.R_lower hoa HP.out.bel.size); have HSZ := Aside0.mk hb.size; have HFA := Aside0.mk (show ∀ b, (Value.slice Aa l.length ca).ownBlock = some b → wr.heap.size ≤ b ∧ b < wa.heap.size from fun b hb9 => ⟨Kd.R_base hoa b hb9, Kd.R_lt hoa b hb9⟩); have HP := Aside0.mk (HP.out.below hb); clear hoa hb)
              | (go_at_call 20; refine (HGiv.bits_ReadRow.calls 0 (rowB l) l 0 _ HR2.out).mono ?_; rintro e wb ⟨vb, rfl, hob, hb⟩; obtain ⟨Ab, cb, eb⟩ := Kd.R_slice hob; subst eb; have HOB := Aside0.mk (Kd.R_lower hob HP.out.bel.size); have HFB := Aside0.mk (show ∀ b, (Value.slice Ab l.length cb).ownBlock = some b → wa.heap.size ≤ b from fun b hb9 => Kd.R_base hob b hb9); have HOA := Aside0.mk (Kd.R_below HOA.out hb); have HP := Aside0.mk (HP.out.below hb); clear hob hb)
              | (go_at_call 11; refine (stratalaw01_num.calls _ _ _ rfl).mono ?_; rintro e w9 ⟨rfl, hd⟩; have HOA := Aside0.mk (Kd.R_below HOA.out hd.below); have HOB := Aside0.mk (Kd.R_below HOB.out hd.below); have HP := Aside0.mk (HP.out.below hd.below); clear hd)
              | (go_at_call 14; refine (stratalaw01_same.calls (l.length + 100) _ _ l A0 c0 l true _ ?s1 ?s2 (Kd.C_below hr.out HP.out.bel) hc.out (same_is l hl.out _ (by omega))).mono ?_; (case s1 => first | exact (Kd.R_reads' HOA.out).2.2 | exact (Kd.R_reads' HOB.out).2.2); (case s2 => first | exact (Kd.R_reads' HOA.out).2.1 | exact (Kd.R_reads' HOB.out).2.1); rintro e w9 ⟨rfl, hd⟩; have HOA := Aside0.mk (Kd.R_below HOA.out hd.below); have HOB := Aside0.mk (Kd.R_below HOB.out hd.below); have HP := Aside0.mk (HP.out.below hd.below); clear hd)
              | ((with_reducible refine gate_dst (N := 104) rfl ?_); go_loud (refine Kd.R_lit kEn _ 22 ?hg (N := 104) ?hd (xs := [⟨Aa, l.length, ca⟩, ⟨Ab, l.length, cb⟩]) (inner := [.slice Aa l.length ca, .slice Ab l.length cb]) (ok := fun _ => True) (okp := fun _ => True) ?hr ?hp (fun _ hk => hk) trivial (Below.refl _ _) (Nat.le_refl _) (by simp) ?_; (case hd => rfl); (case hg => rfl); (case hr => first | (go_simp; done) | (go_simp; rfl)); (case hp => exact (Reps.one (show Kd.M kEn _ _ _ (⟨Aa, l.length, ca⟩ : En) [.slice Aa l.length ca] from rfl) (Reps.one (show Kd.M kEn _ _ _ (⟨Ab, l.length, cb⟩ : En) [.slice Ab l.length cb] from rfl) (Reps.none _ _)))); intro v5 w5 ho5 hb5 hg5 hn5; obtain ⟨A5, c5, e5⟩ := Kd.R_slice ho5; subst e5; have HO := Aside0.mk (Kd.R_mono (Kd.R_elder' HP.out.row (Kd.R_base ho5) hb5) (ok' := fun k_ => some k_ ≠ (.slice A5 ([⟨Aa, l.length, ca⟩, ⟨Ab, l.length, cb⟩] : List En).length c5 : Value).ownBlock) (fun _ hk => hk.2)); have HOA := Aside0.mk (Kd.R_below HOA.out hb5); have HOB := Aside0.mk (Kd.R_below HOB.out hb5); have HP := Aside0.mk (HP.out.below hb5); have HO5 := Aside0.mk ho5; clear ho5 hb5 hg5 hn5))
              | ((with_reducible refine gate_builtin (b := .append) (xs := #[.tmp 101, .tmp 104]) rfl ?_); go_loud (at_builtin; refine Kd.R_append_rows kEn (w0 := w) w.heap.size rfl (.tmp 101) (.tmp 104) 43 22 (.slice none 0 0) 24 rfl Tryd.underlying43 info22 rfl (by decide) (by decide) _ es ([⟨Aa, l.length, ca⟩, ⟨Ab, l.length, cb⟩] : List En) _ _ _ (fun k_ => some k_ ≠ (.slice A5 ([⟨Aa, l.length, ca⟩, ⟨Ab, l.length, cb⟩] : List En).length c5 : Value).ownBlock) (fun _ => False) rfl rfl ?aO ?aR (fun _ _ h => h) (fun _ h => h.elim) ?aF ?aB ?aS ?aL ?_; (case aR => exact (Kd.R_reads' HO5.out).2.2); (case aB => exact HP.out.bel); (case aF => exact (fun k_ hk => Kd.fresh' (Kd.R_lt HO5.out) k_ hk)); (case aO => exact HO.out); (case aS => exact HP.out.bel.size); (case aL => have h9 := HI.out; simp only [List.length_cons, List.length_nil]; omega); intro v6 w6 ho hb hg hat; have HP := Aside0.mk (HP.out.more (Kd.R_mono ho (fun _ _ => trivial)) hg hb (two_own HOA.out HOB.out h16.out) (two_apart HFA.out HFB.out) (two_new HLT.out HFA.out HFB.out HSZ.out)); clear ho hb hg hat)))
            cases gk with
            | zero => exact absurd HI.out.2.2.1 (by have := HI.out; have := HZ.out; omega)
            | succ k =>
            go_roundg k
            case measure => omega
            case rel => exact ⟨i + 1, _, _, rfl, ⟨by have := HI.out; have := HZ.out; refine ⟨(by first | exact (w64 (by omega) (by omega)).trans (by omega) | omega), by omega, by omega, by rw [List.length_append]; simp only [List.length_cons, List.length_nil]; omega⟩⟩, HP⟩
        · have d2 : (0 < l.length) = False := eq_false hl0
          have d3 : decide (0 < l.length) = false := decide_eq_false hl0
          have HL0 := Aside0.mk hl0
          clear hl0
          go_wp2_with (first
            | (go_at_call 18; refine (HGiv.bits_ReadKey.calls 0 (keyB l) l 0 _ HR1.out).mono ?_; rintro e wa ⟨va, rfl, hoa, hb⟩; obtain ⟨Aa, ca, ea⟩ := Kd.R_slice hoa; subst ea; have HOA := Aside0.mk (Kd.R_lower hoa HP.out.bel.size); have HSZ := Aside0.mk hb.size; have HFA := Aside0.mk (show ∀ b, (Value.slice Aa l.length ca).ownBlock = some b → wr.heap.size ≤ b ∧ b < wa.heap.size from fun b hb9 => ⟨Kd.R_base hoa b hb9, Kd.R_lt hoa b hb9⟩); have HP := Aside0.mk (HP.out.below hb); clear hoa hb)
            | (go_at_call 20; refine (HGiv.bits_ReadRow.calls 0 (rowB l) l 0 _ HR2.out).mono ?_; rintro e wb ⟨vb, rfl, hob, hb⟩; obtain ⟨Ab, cb, eb⟩ := Kd.R_slice hob; subst eb; have HOB := Aside0.mk (Kd.R_lower hob HP.out.bel.size); have HFB := Aside0.mk (show ∀ b, (Value.slice Ab l.length cb).ownBlock = some b → wa.heap.size ≤ b from fun b hb9 => Kd.R_base hob b hb9); have HOA := Aside0.mk (Kd.R_below HOA.out hb); have HP := Aside0.mk (HP.out.below hb); clear hob hb)
            | (go_at_call 11; refine (stratalaw01_num.calls _ _ _ rfl).mono ?_; rintro e w9 ⟨rfl, hd⟩; have HOA := Aside0.mk (Kd.R_below HOA.out hd.below); have HOB := Aside0.mk (Kd.R_below HOB.out hd.below); have HP := Aside0.mk (HP.out.below hd.below); clear hd)
            | (go_at_call 14; refine (stratalaw01_same.calls (l.length + 100) _ _ l A0 c0 l true _ ?s1 ?s2 (Kd.C_below hr.out HP.out.bel) hc.out (same_is l hl.out _ (by omega))).mono ?_; (case s1 => first | exact (Kd.R_reads' HOA.out).2.2 | exact (Kd.R_reads' HOB.out).2.2); (case s2 => first | exact (Kd.R_reads' HOA.out).2.1 | exact (Kd.R_reads' HOB.out).2.1); rintro e w9 ⟨rfl, hd⟩; have HOA := Aside0.mk (Kd.R_below HOA.out hd.below); have HOB := Aside0.mk (Kd.R_below HOB.out hd.below); have HP := Aside0.mk (HP.out.below hd.below); clear hd)
            | ((with_reducible refine gate_dst (N := 104) rfl ?_); go_loud (refine Kd.R_lit kEn _ 22 ?hg (N := 104) ?hd (xs := [⟨Aa, l.length, ca⟩, ⟨Ab, l.length, cb⟩]) (inner := [.slice Aa l.length ca, .slice Ab l.length cb]) (ok := fun _ => True) (okp := fun _ => True) ?hr ?hp (fun _ hk => hk) trivial (Below.refl _ _) (Nat.le_refl _) (by simp) ?_; (case hd => rfl); (case hg => rfl); (case hr => first | (go_simp; done) | (go_simp; rfl)); (case hp => exact (Reps.one (show Kd.M kEn _ _ _ (⟨Aa, l.length, ca⟩ : En) [.slice Aa l.length ca] from rfl) (Reps.one (show Kd.M kEn _ _ _ (⟨Ab, l.length, cb⟩ : En) [.slice Ab l.length cb] from rfl) (Reps.none _ _)))); intro v5 w5 ho5 hb5 hg5 hn5; obtain ⟨A5, c5, e5⟩ := Kd.R_slice ho5; subst e5; have HO := Aside0.mk (Kd.R_mono (Kd.R_elder' HP.out.row (Kd.R_base ho5) hb5) (ok' := fun k_ => some k_ ≠ (.slice A5 ([⟨Aa, l.length, ca⟩, ⟨Ab, l.length, cb⟩] : List En).length c5 : Value).ownBlock) (fun _ hk => hk.2)); have HOA := Aside0.mk (Kd.R_below HOA.out hb5); have HOB := Aside0.mk (Kd.R_below HOB.out hb5); have HP := Aside0.mk (HP.out.below hb5); have HO5 := Aside0.mk ho5; clear ho5 hb5 hg5 hn5))
            | ((with_reducible refine gate_builtin (b := .append) (xs := #[.tmp 101, .tmp 104]) rfl ?_); go_loud (at_builtin; refine Kd.R_append_rows kEn (w0 := w) w.heap.size rfl (.tmp 101) (.tmp 104) 43 22 (.slice none 0 0) 24 rfl Tryd.underlying43 info22 rfl (by decide) (by decide) _ es ([⟨Aa, l.length, ca⟩, ⟨Ab, l.length, cb⟩] : List En) _ _ _ (fun k_ => some k_ ≠ (.slice A5 ([⟨Aa, l.length, ca⟩, ⟨Ab, l.length, cb⟩] : List En).length c5 : Value).ownBlock) (fun _ => False) rfl rfl ?aO ?aR (fun _ _ h => h) (fun _ h => h.elim) ?aF ?aB ?aS ?aL ?_; (case aR => exact (Kd.R_reads' HO5.out).2.2); (case aB => exact HP.out.bel); (case aF => exact (fun k_ hk => Kd.fresh' (Kd.R_lt HO5.out) k_ hk)); (case aO => exact HO.out); (case aS => exact HP.out.bel.size); (case aL => have h9 := HI.out; simp only [List.length_cons, List.length_nil]; omega); intro v6 w6 ho hb hg hat; have HP := Aside0.mk (HP.out.more (Kd.R_mono ho (fun _ _ => trivial)) hg hb (two_own HOA.out HOB.out h16.out) (two_apart HFA.out HFB.out) (two_new HLT.out HFA.out HFB.out HSZ.out)); clear ho hb hg hat)))
          all_goals (
            cases gk with
            | zero => exact absurd HI.out.2.2.1 (by have := HI.out; have := HZ.out; omega)
            | succ k =>
            go_roundg k
            case measure => omega
            case rel => exact ⟨i + 1, _, _, rfl, ⟨by have := HI.out; have := HZ.out; refine ⟨(by first | exact (w64 (by omega) (by omega)).trans (by omega) | omega), by omega, by omega, by rw [List.length_append]; simp only [List.length_cons, List.length_nil]; omega⟩⟩, HP⟩)
      · have d0 : decide (z < 4) = false := decide_eq_false hz
        obtain ⟨Ak, ck, hv⟩ := Kd.R_slice HP.out.row
        subst hv
        have HE : Aside0 (es.length ≤ 12) := ⟨by have := HI.out; omega⟩
        have HQ := Aside0.mk (Kq.start HP.out)
        obtain ⟨hh, hhe⟩ : ∃ h, wr.heap.size = h := ⟨_, rfl⟩
        rw [hhe] at HQ
        clear HI HP hz hhe
        go_wp2
        go_loopg [17, 18] 13 (fun gk v17 v18 wr2 => ∃ (i : Nat) (z : Int) (gs : List En), v18 = .int .i64 z ∧ Aside0 (z = (i : Int) ∧ i ≤ es.length ∧ es.length < i + gk ∧ gs.length = i) ∧ Aside0 (Kq w wr2 hh (.slice Ak es.length ck) v17 es gs i))
        case atStart => exact ⟨0, _, [], rfl, ⟨rfl, by omega, by have := HE.out; omega, rfl⟩, HQ⟩
        case round =>
          clear HQ
          obtain ⟨i, z, gs, rfl, HI, HQ⟩ := hrel
          obtain ⟨Ag, cg, hv⟩ := Kd.R_slice HQ.out.grow
          subst hv
          by_cases hz : z < (es.length : Int)
          · have d0 : decide (z < (es.length : Int)) = true := decide_eq_true hz
            have HZ := Aside0.mk hz
            have q0 : (z < (es.length : Int)) = True := eq_true hz
            have p0 : (0 ≤ z) = True := eq_true (by have := HI.out; omega)
            obtain ⟨⟨eA, en, ec⟩, he⟩ : ∃ e, es[i]? = some e := ⟨_, List.getElem?_eq_getElem (by have := HI.out; omega)⟩
            obtain ⟨ad, hA, hx0⟩ := at_En (Kd.R_reads' HQ.out.krow).2.2 i z HI.out.1 _ he
            cases hA
            have hx : World.cell? _ (ad.add z.toNat) = some (Value.slice eA en ec) := hx0
            have hwz : Aside0 (wrap64 (z + 1) = (i : Int) + 1) := ⟨by have := HI.out; have := HE.out; exact (w64 (by omega) (by omega)).trans (by omega)⟩
            have HEI := Aside0.mk he
            clear hz he hx0
            go_wp2_with (first
              | (go_at_call 22; obtain ⟨xs, hxs, hR⟩ := HQ.out.own i _ (Nat.le_refl _) HEI.out; have h6 := HQ.out.small _ (List.mem_of_getElem? HEI.out); have hxs2 : xs.length = en := hxs; refine (marks_any w.heap.size (.slice eA en ec) xs _ _ ⟨HQ.out.bel.size⟩ ⟨(by have h7 : en ≤ 16 := h6; omega)⟩ ⟨hR⟩).mono ?_; rintro x w2 hM; rw [hxs2] at hM; obtain ⟨⟨gA, gn, gc⟩, hx1, hq, hp⟩ := HQ.out.mark HI.out.2.2.2 HEI.out hM; have hx2 : x = .returned (.slice gA gn gc) := hx1; subst hx2; have HQ := Aside0.mk hq; have HPE := Aside0.mk (hp.cast hwz.out); clear hq hp hM hx hx1 hR hxs hxs2 h6)
              | ((with_reducible refine gate_builtin (b := .append) (xs := #[.tmp 149, .tmp 157]) rfl ?_); go_loud (at_builtin; refine Kd.R_append kEn (w0 := w) w.heap.size rfl (.tmp 149) (.tmp 157) 43 22 (.slice none 0 0) 24 rfl Tryd.underlying43 info22 rfl (by decide) (by decide) _ gs (⟨gA, gn, gc⟩ : En) [.slice gA gn gc] (fun _ => True) (fun _ => False) rfl (by first | (go_simp; done) | (go_simp; rfl)) ?aP (fun _ hk => hk.elim) ?aF ?aO ?aB ?aS ?aL ?_; (case aP => exact rfl); (case aF => exact (fun _ _ => trivial)); (case aO => exact HQ.out.grow); (case aB => exact HQ.out.bel); (case aS => exact HQ.out.bel.size); (case aL => have h9 := HI.out; have := HE.out; omega); intro v9 w9 ho hb hg hat; have HQ := Aside0.mk (HQ.out.push HI.out.2.2.2 HEI.out HPE.out ho hb hg hat); clear ho hb hg hat)))
            cases gk with
            | zero => exact absurd HI.out.2.2.1 (by have := HI.out; have := HZ.out; omega)
            | succ k =>
            go_roundg k
            case measure => omega
            case rel => exact ⟨i + 1, _, _, rfl, ⟨by have := HI.out; have := HZ.out; refine ⟨hwz.out.trans (by omega), by omega, by omega, by rw [List.length_append]; simp only [List.length_cons, List.length_nil]; omega⟩⟩, HQ⟩
          · have d0 : decide (z < (es.length : Int)) = false := decide_eq_false hz
            have hlg : gs.length = es.length := by have := HI.out; omega
            have hie : i = es.length := by have := HI.out; omega
            have HLG := Aside0.mk hlg
            rw [hie, hlg] at HQ
            clear hz HI hlg hie
            go_wp2
            go_loopg [19] 13 (fun gk v19 wr3 => ∃ (i : Nat) (z : Int), v19 = .int .i64 z ∧ Aside0 (z = (i : Int) ∧ i ≤ es.length ∧ es.length < i + gk) ∧ Aside0 (Kq w wr3 hh (.slice Ak es.length ck) (.slice Ag es.length cg) es gs es.length))
            case atStart => exact ⟨0, _, rfl, ⟨rfl, by omega, by have := HE.out; omega⟩, HQ⟩
            case round =>
              clear HQ
              obtain ⟨i, z, rfl, HI, HQ⟩ := hrel
              by_cases hz : z < (es.length : Int)
              · have d0 : decide (z < (es.length : Int)) = true := decide_eq_true hz
                have HZ := Aside0.mk hz
                have q0 : (z < (es.length : Int)) = True := eq_true hz
                have p0 : (0 ≤ z) = True := eq_true (by have := HI.out; omega)
                have q1 : (z < (gs.length : Int)) = True := eq_true (by have := HLG.out; omega)
                obtain ⟨⟨eA, en, ec⟩, he⟩ : ∃ e, es[i]? = some e := ⟨_, List.getElem?_eq_getElem (by have := HI.out; omega)⟩
                obtain ⟨⟨gA, gn, gc⟩, hge⟩ : ∃ e, gs[i]? = some e := ⟨_, List.getElem?_eq_getElem (by have := HI.out; have := HLG.out; omega)⟩
                obtain ⟨ad, hA, hx0⟩ := at_En (Kd.R_reads' HQ.out.krow).2.2 i z HI.out.1 _ he
                have hgr := (Kd.R_reads' HQ.out.grow).2.2
                rw [HLG.out] at hgr
                obtain ⟨ad2, hA2, hx2⟩ := at_En hgr i z HI.out.1 _ hge
                cases hA
                cases hA2
                have hx : World.cell? _ (ad.add z.toNat) = some (Value.slice eA en ec) := hx0
                have HX : Aside0 (World.cell? _ (ad2.add z.toNat) = some (Value.slice gA gn gc)) := ⟨hx2⟩
                have hwz : Aside0 (wrap64 (z + 1) = (i : Int) + 1) := ⟨by have := HI.out; have := HE.out; exact (w64 (by omega) (by omega)).trans (by omega)⟩
                have HEI := Aside0.mk he
                have HGI := Aside0.mk hge
                have HEN : Aside0 (en ≤ 16) := ⟨HQ.out.small _ (List.mem_of_getElem? he)⟩
                have HGN : Aside0 (gn = en + 1) := ⟨(HQ.out.done i _ _ he hge).gn⟩
                have HND := Aside0.mk trivial
                clear hz he hx0 hx2 hge hgr
                go_wp2_with (first
                  | (go_at_call 23; (first | (have hnd := HND; clear hnd HND; refine (marked_any eA en ec ((i : Int) + 1) _ _ (HQ.out.done i _ _ HEI.out HGI.out).ce (HQ.out.done i _ _ HEI.out HGI.out).ec (by have := HEN.out; omega) hwz.out).mono ?_) | (refine (marked_any gA gn gc ((i : Int) + 1) _ _ (HQ.out.done i _ _ HEI.out HGI.out).cg (HQ.out.done i _ _ HEI.out HGI.out).gc (by have := HEN.out; have := HGN.out; omega) hwz.out).mono ?_)); rintro x w9 ⟨rfl, hb⟩; have HQ := Aside0.mk (HQ.out.below hb); have HX := Aside0.mk (pw_cell_below hb HX.out); have hx := HX.out; clear hb))
                cases gk with
                | zero => exact absurd HI.out.2.2 (by have := HI.out; have := HZ.out; omega)
                | succ k =>
                go_roundg k
                case measure => omega
                case rel => exact ⟨i + 1, _, rfl, ⟨by have := HI.out; have := HZ.out; refine ⟨hwz.out.trans (by omega), by omega, by omega⟩⟩, HQ⟩
              · have d0 : decide (z < (es.length : Int)) = false := decide_eq_false hz
                have HB := Aside0.mk HQ.out.bel
                clear hz HI HQ
                go_wp2_with (first
                  | (go_at_call 18; refine (HGiv.bits_ReadKey.calls 0 (keyB l) l 0 _ HR1.out).mono ?_; rintro x wa ⟨va, rfl, hoa, hb⟩; obtain ⟨Aa, ca, ea⟩ := Kd.R_slice hoa; subst ea; have HOA := Aside0.mk hoa; have HB := Aside0.mk (below_step HB.out hb); clear hoa hb)
                  | (go_at_call 20; refine (HGiv.bits_ReadRow.calls 0 (rowB l) l 0 _ HR2.out).mono ?_; rintro x wb ⟨vb, rfl, hob, hb⟩; obtain ⟨Ab, cb, eb⟩ := Kd.R_slice hob; subst eb; have HOB := Aside0.mk hob; have HOA := Aside0.mk (Kd.R_below HOA.out hb); have HB := Aside0.mk (below_step HB.out hb); clear hob hb)
                  | (go_at_call 11; refine (stratalaw01_num.calls _ _ _ rfl).mono ?_; rintro x w9 ⟨rfl, hd⟩; have HOA := Aside0.mk (Kd.R_below HOA.out hd.below); have HOB := Aside0.mk (Kd.R_below HOB.out hd.below); have HB := Aside0.mk (below_step HB.out hd.below); clear hd)
                  | (go_at_call 14; refine (stratalaw01_same.calls (l.length + 100) _ _ l A0 c0 l true _ ?s1 ?s2 (Kd.C_below hr.out HB.out) hc.out (same_is l hl.out _ (by omega))).mono ?_; (case s1 => first | exact (Kd.R_reads' HOA.out).2.2 | exact (Kd.R_reads' HOB.out).2.2); (case s2 => first | exact (Kd.R_reads' HOA.out).2.1 | exact (Kd.R_reads' HOB.out).2.1); rintro x w9 ⟨rfl, hd⟩; have HOA := Aside0.mk (Kd.R_below HOA.out hd.below); have HOB := Aside0.mk (Kd.R_below HOB.out hd.below); have HB := Aside0.mk (below_step HB.out hd.below); clear hd))
                go_ret
                exact ⟨rfl, HB.out⟩
  · have H0 := Aside0.mk h0
    have d0 : decide (chk l = 0) = false := decide_eq_false h0
    have hs1 : keyB l = ⟨#[]⟩ := if_neg h0
    have hs2 : rowB l = ⟨#[]⟩ := if_neg h0
    have b0 : (chk l == 0) = false := beq_eq_false_iff_ne.2 h0
    have b1 : (chk l != 0) = true := bne_iff_ne.2 h0
    have HS := Aside0.mk (show keyB l = ⟨#[]⟩ ∧ rowB l = ⟨#[]⟩ from ⟨hs1, hs2⟩)
    rw [d0] at HM
    clear h0 d0 hs1 hs2
    go_enter Tryd.func6, Tryd.ntmps6
    go_wp2_with (first
      | (go_at_call 8; refine (stratalaw01_room.calls (l.length + 100) A0 c0 l (l ++ [markV]) _ (Kd.C_below hr.out HB.out) hc.out HK.out).mono ?_; rintro e w1 ⟨v1, rfl, ho, hb⟩; obtain ⟨Ar, cr, er⟩ := Kd.R_slice ho; rw [htk.out.2.1] at er; subst er; obtain ⟨_, r2, r3⟩ := Kd.R_reads' ho; have q5 : (l.length ≤ cr) = True := eq_true (by have := htk.out.2.2; omega); have HRC := Aside0.mk (show Kd.C k33 w1 Ar l.length l from by have := Kd.C_take (m := l.length) r3 (by rw [htk.out.2.1, htk.out.2.2]; omega); rw [htk.out.1] at this; exact this); have HRL := Aside0.mk (show l.length ≤ cr from by have := htk.out.2.2; omega); have HB := Aside0.mk (below_step HB.out hb); clear ho hb r2 r3)
      | (go_at_call 9; refine (bits_Key.calls 0 _ _ l (keyB l) (chk l) _ HRC.out HRL.out (kfor l hn.out 0) (hT.out.below HB.out)).mono ?_; rintro e w2 ⟨he, hb⟩; rw [HS.out.1] at he; subst he; have HB := Aside0.mk (below_step HB.out hb); clear hb q5 HRC HRL)
      | (go_at_call 12; refine (bits_Row.calls 0 _ _ l (rowB l) (chk l) _ HRC.out HRL.out (rfor l hn.out 0) (hT.out.below HB.out)).mono ?_; rintro e w2 ⟨he, hb⟩; rw [HS.out.2] at he; subst he; have HB := Aside0.mk (below_step HB.out hb); clear hb q5 HRC HRL)
      | (go_at_call 15; refine (stratalaw01_may.calls (l.length + 100) A0 c0 l false _ (Kd.C_below hr.out HB.out) hc.out HM.out).mono ?_; rintro e w2 ⟨rfl, hb⟩; have HB := Aside0.mk (below_step HB.out hb); clear hb)
      | (go_at_call 11; refine (stratalaw01_num.calls _ _ _ rfl).mono ?_; rintro e w9 ⟨rfl, hd⟩; have HB := Aside0.mk (below_step HB.out hd.below); clear hd))
    go_ret
    exact ⟨rfl, HB.out⟩
theorem walk (A0 : Option Addr) (c0 : Nat) (l0 : List S33) (w : World) (hC : Kd.C k33 w A0 l0.length l0) (hc : l0.length ≤ c0) (q : l0.length * 32 ≤ 140737488351232 ∧ ∀ x ∈ l0, (Lit.int .i64 x.f0).wf = true ∧ (Lit.int .i64 x.f1).wf = true ∧ x.f2.size ≤ 140737488351232) (hT : Tab w) :
    Calls Tryd.prog 6 #[.slice A0 l0.length c0] w fun e w' => e = .returned (.bool true) ∧ Below w.heap.size w w' := by
  have hr : inr l0 := fun x hx => by
    have := (q.2 x hx).2.1
    simp [Lit.wf, IntKind.min, IntKind.max, IntKind.signed, IntKind.bits] at this
    exact this
  exact given_any A0 c0 l0 w ⟨hT⟩ ⟨hC⟩ ⟨hc⟩ ⟨hr⟩ ⟨by omega⟩
end Go.Proofs.YtbekgkikgcmmaaaDoor.HBitGn
