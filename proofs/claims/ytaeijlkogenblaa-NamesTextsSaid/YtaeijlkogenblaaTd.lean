/- NamesTexts: one index of texts with the document's beside it and what was kept. Conditions: each theorem's own. -/
import Derived.Test.YtaeijlkogenblaaTc
namespace Go.Proofs.Ytaeijlkogenblaa.Nt
open Go.RowKit Go.Shelf Go.Proofs.YtaeijlkogenblaaW.Raw Go.Proofs.YtaeijlkogenblaaW.PrintWords Go.Proofs.YtaeijlkogenblaaW.PrintLast Go.Proofs.Ytaeijlkogenblaa.IxS
set_option linter.unusedVariables false
set_option linter.unusedSimpArgs false
/-- An iterator that was kept: its box, its row, the list that was copied, and the things. -/
structure KE where
  b : Nat
  A : Option Addr
  u : Value
  zs : List ByteArray
def kV (e : KE) : Value := .func (.func 42) #[] #[.pointer (some ⟨e.b, 0, none⟩)]
structure Ent (f : Nat → Prop) (W : World) (v r we : Value) (xs : List ByteArray) (e : KE) : Prop where
  box : W.heap[e.b]? = some (.cells #[.slice e.A e.zs.length e.zs.length] 22 (0, 0))
  fb : f e.b
  nw : some e.b ≠ we.ownBlock
  rv : Rds (fun k => f k ∧ some k ≠ r.ownBlock ∧ (some k = v.ownBlock → e.zs <+: xs)) W (.slice e.A e.zs.length e.zs.length) e.zs
  ru : Rds (fun k => f k ∧ some k ≠ r.ownBlock ∧ some k ≠ v.ownBlock) W e.u e.zs
structure Tx (base : Nat) (f : Nat → Prop) (W : World) (bT g m : Nat) (v r kp we : Value) (xs : List ByteArray) (ks : List KE) : Prop where
  blk : W.heap[bT]? = some (.cells #[.pointer (some ⟨g, 0, none⟩), r, kp, we] 45 (0, 0))
  I : Idx W base g m v xs
  rr : W.ownsRow base 9 1 r xs.length (encs Value.string xs)
  kk : W.ownsRow base 82 1 kp ks.length (encs kV ks)
  ww : W.ownsRow base 22 1 we ks.length (encs KE.u ks)
  ent : ∀ e ∈ ks, Ent f W v r we xs e
  vr : ∀ k, v.ownBlock = some k → r.ownBlock ≠ some k
  hb : base ≤ bT
  hle : xs.length ≤ 1048576
  fT : f bT
  fg : f g
  fm : f m
  fv : ∀ k, v.ownBlock = some k → f k
  fr : ∀ k, r.ownBlock = some k → f k
  fk : ∀ k, kp.ownBlock = some k → f k
  fw : ∀ k, we.ownBlock = some k → f k
variable {base : Nat} {f : Nat → Prop} {W W1 W2 : World} {bT g m : Nat} {v r kp we : Value} {xs : List ByteArray} {ks : List KE}
theorem lt_of_get {w : World} {i : Nat} {o : Obj} (h : w.heap[i]? = some o) : i < w.heap.size := (Array.getElem?_eq_some_iff.1 h).1
theorem idx_move {w wr : World} (h : Idx w base g m v xs) (hm : ∀ i, i < w.heap.size → (i = g ∨ i = m ∨ some i = v.ownBlock) → wr.heap[i]? = w.heap[i]?) : Idx wr base g m v xs :=
  ⟨(hm g (lt_of_get h.blk) (.inl rfl)).trans h.blk, h.raw.move (hm m h.raw.lt (.inr (.inl rfl))), own_heap h.row (fun k hk => hm k (own_lt h.row k hk) (.inr (.inr hk.symm))), h.hg, h.hm⟩
theorem Ent.move {f' : Nat → Prop} {e : KE} (h : Ent f W v r we xs e) (hm : ∀ k, f k → k < W.heap.size → W1.heap[k]? = W.heap[k]?) (hf : ∀ k, f k → f' k) : Ent f' W1 v r we xs e :=
  ⟨(hm _ h.fb (lt_of_get h.box)).trans h.box, hf _ h.fb, h.nw, h.rv.move (fun k hk hlt => hm k hk.1 hlt) (fun k hk => ⟨hf k hk.1, hk.2⟩), h.ru.move (fun k hk hlt => hm k hk.1 hlt) (fun k hk => ⟨hf k hk.1, hk.2⟩)⟩
/-- What may be turned by others is none of it. -/
theorem Tx.move (h : Tx base f W bT g m v r kp we xs ks) (hm : ∀ k, f k → k < W.heap.size → W1.heap[k]? = W.heap[k]?) : Tx base f W1 bT g m v r kp we xs ks where
  blk := (hm _ h.fT (lt_of_get h.blk)).trans h.blk
  I := idx_move h.I (fun i hi hh => hm i (hh.elim (fun e => e ▸ h.fg) (fun hh => hh.elim (fun e => e ▸ h.fm) (fun e => h.fv _ e.symm))) hi)
  rr := own_heap h.rr (fun k hk => hm k (h.fr k hk) (own_lt h.rr k hk))
  kk := own_heap h.kk (fun k hk => hm k (h.fk k hk) (own_lt h.kk k hk))
  ww := own_heap h.ww (fun k hk => hm k (h.fw k hk) (own_lt h.ww k hk))
  ent := fun e he => (h.ent e he).move hm (fun _ h => h)
  vr := h.vr
  hb := h.hb
  hle := h.hle
  fT := h.fT
  fg := h.fg
  fm := h.fm
  fv := h.fv
  fr := h.fr
  fk := h.fk
  fw := h.fw
theorem Tx.below (h : Tx base f W bT g m v r kp we xs ks) (hb : Below W.heap.size W W1) : Tx base f W1 bT g m v r kp we xs ks := h.move (fun k _ hk => hb.block k hk)
theorem Rds.bound {f : Nat → Prop} {W : World} {v : Value} {zs : List ByteArray} (h : Rds f W v zs) : Rds (fun k => f k ∧ k < W.heap.size) W v zs := by
  obtain ⟨A, c, e, hl, hx, hz⟩ := h
  refine ⟨A, c, e, hl, hx, hz.imp id ?_⟩
  rintro ⟨b, cs, eA, hfb, hb, hc⟩
  exact ⟨b, cs, eA, ⟨hfb, lt_of_get hb⟩, hb, hc⟩
/-- Its blocks are there. -/
theorem Tx.bound (h : Tx base f W bT g m v r kp we xs ks) : Tx base (fun k => f k ∧ k < W.heap.size) W bT g m v r kp we xs ks where
  blk := h.blk
  I := h.I
  rr := h.rr
  kk := h.kk
  ww := h.ww
  ent := fun e he => ⟨(h.ent e he).box, ⟨(h.ent e he).fb, lt_of_get (h.ent e he).box⟩, (h.ent e he).nw,
    (h.ent e he).rv.bound.move (fun _ _ _ => rfl) (fun k hk => ⟨⟨hk.1.1, hk.2⟩, hk.1.2⟩), (h.ent e he).ru.bound.move (fun _ _ _ => rfl) (fun k hk => ⟨⟨hk.1.1, hk.2⟩, hk.1.2⟩)⟩
  vr := h.vr
  hb := h.hb
  hle := h.hle
  fT := ⟨h.fT, lt_of_get h.blk⟩
  fg := ⟨h.fg, lt_of_get h.I.blk⟩
  fm := ⟨h.fm, h.I.raw.lt⟩
  fv := fun k hk => ⟨h.fv k hk, own_lt h.I.row k hk⟩
  fr := fun k hk => ⟨h.fr k hk, own_lt h.rr k hk⟩
  fk := fun k hk => ⟨h.fk k hk, own_lt h.kk k hk⟩
  fw := fun k hk => ⟨h.fw k hk, own_lt h.ww k hk⟩
/-- The blocks of a kind that no turn of the index touches. -/
theorem Tx.typed (h : Tx base f W bT g m v r kp we xs ks) {k t : Nat} {cs : Array Value} (hk : W.heap[k]? = some (.cells cs t (0, 0))) (h1 : t ≠ 78) (h2 : t ≠ 45) : k ≠ g ∧ k ≠ m ∧ k ≠ bT :=
  ⟨fun e => blk_ne hk h.I.blk h1 e, fun e => IxS.raw_ne_blk h.I.raw hk e.symm, fun e => blk_ne hk h.blk h2 e⟩
/-- Of, on both: a new thing. -/
theorem tx_of (h : Tx base f W bT g m v r kp we xs ks) {s : ByteArray} (hlt : xs.length < 1048576) {v' r' : Value} (hI : Idx W1 base g m v' (xs ++ [s])) (hK : Kept W W1 (fun i => i = g ∨ i = m ∨ some i = v.ownBlock)) (hat : v'.ownBlock = v.ownBlock ∨ ∃ b, v'.ownBlock = some b ∧ W.heap.size ≤ b)
    (hmv : ∀ k, v.ownBlock = some k → v'.ownBlock = some k ∨ W1.heap[k]? = W.heap[k]?) (hR : ROw W2 base bT (.pointer (some ⟨g, 0, none⟩)) r' kp we (xs ++ [s])) (hK2 : Kept W1 W2 (fun j => j = bT ∨ some j = r.ownBlock)) (hat2 : r'.ownBlock = r.ownBlock ∨ ∃ b, r'.ownBlock = some b ∧ W1.heap.size ≤ b) :
    Tx base (fun k => f k ∨ W.heap.size ≤ k) W2 bT g m v' r' kp we (xs ++ [s]) ks := by
  have hs1 : W.heap.size ≤ W1.heap.size := hK.1
  have hTl := lt_of_get h.blk
  have u1 : ∀ k, k < W.heap.size → k ≠ g → k ≠ m → some k ≠ v.ownBlock → W1.heap[k]? = W.heap[k]? := fun k hk a1 a2 a3 => hK.2 k hk (by rintro (h1 | h1 | h1) <;> contradiction)
  have u2 : ∀ k, k < W1.heap.size → k ≠ bT → some k ≠ r.ownBlock → W2.heap[k]? = W1.heap[k]? := fun k hk a1 a2 => hK2.2 k hk (by rintro (h1 | h1) <;> contradiction)
  have uT : ∀ (k t : Nat) (cs : Array Value), W.heap[k]? = some (Obj.cells cs t (0, 0)) → t ≠ 78 → t ≠ 45 → 9 ≠ t → W2.heap[k]? = W.heap[k]? := fun k t cs hk h1 h2 h3 => by
    obtain ⟨a1, a2, a3⟩ := h.typed hk h1 h2
    have hkl := lt_of_get hk
    exact (u2 k (by omega) a3 (own_ne h.rr hk h3)).trans (u1 k hkl a1 a2 (own_ne h.I.row hk h3))
  have u9 : ∀ (k : Nat) (cs : Array Value), W.heap[k]? = some (Obj.cells cs 9 (0, 0)) → some k ≠ v.ownBlock → some k ≠ r.ownBlock → W2.heap[k]? = W.heap[k]? := fun k cs hk h1 h2 => by
    obtain ⟨a1, a2, a3⟩ := h.typed hk (by decide) (by decide)
    have hkl := lt_of_get hk
    exact (u2 k (by omega) a3 h2).trans (u1 k hkl a1 a2 h1)
  have hrl : ∀ k, r.ownBlock = some k → k < W.heap.size := fun k hk => own_lt h.rr k hk
  have hvl : ∀ k, v.ownBlock = some k → k < W.heap.size := fun k hk => own_lt h.I.row k hk
  have hb1 : W1.heap[bT]? = some (.cells #[.pointer (some ⟨g, 0, none⟩), r, kp, we] 45 (0, 0)) := (u1 bT hTl (fun e => blk_ne h.blk h.I.blk (by decide) e) (fun e => IxS.raw_ne_blk h.I.raw h.blk e.symm) (own_ne h.I.row h.blk (by decide))).trans h.blk
  have hv'r : ∀ k, v'.ownBlock = some k → r.ownBlock ≠ some k := fun k hk he => by
    rcases hat with e | ⟨b, e, hle⟩
    · exact h.vr k (by rw [← e]; exact hk) he
    · rw [e] at hk; injection hk with hk; have := hrl k he; omega
  have hI2 : Idx W2 base g m v' (xs ++ [s]) := idx_move hI (fun i hi hh => u2 i hi
    (fun e => by
      subst e
      rcases hh with e | e | e
      · exact blk_ne h.blk h.I.blk (by decide) e
      · subst e; exact IxS.raw_ne_blk h.I.raw h.blk rfl
      · exact own_ne hI.row hb1 (by decide) e)
    (fun e => by
      rcases hh with e1 | e1 | e1
      · subst e1; exact own_ne h.rr h.I.blk (by decide) e
      · subst e1; exact IxS.raw_ne h.I.raw h.rr e
      · exact hv'r i e1.symm e.symm))
  have kown : ∀ k, kp.ownBlock = some k → W2.heap[k]? = W.heap[k]? := fun k hk => by
    obtain ⟨cs, hcs⟩ := own_typed h.kk k hk
    exact uT k _ cs hcs (by decide) (by decide) (by decide)
  have wown : ∀ k, we.ownBlock = some k → W2.heap[k]? = W.heap[k]? := fun k hk => by
    obtain ⟨cs, hcs⟩ := own_typed h.ww k hk
    exact uT k _ cs hcs (by decide) (by decide) (by decide)
  have nr' : ∀ k, k < W.heap.size → some k ≠ r.ownBlock → some k ≠ r'.ownBlock := fun k hk hn e => by
    rcases hat2 with e2 | ⟨b, e2, hle⟩
    · exact hn (by rw [← e2]; exact e)
    · rw [e2] at e; injection e with e; omega
  have nv' : ∀ k, k < W.heap.size → some k ≠ v.ownBlock → some k ≠ v'.ownBlock := fun k hk hn e => by
    rcases hat with e2 | ⟨b, e2, hle⟩
    · exact hn (by rw [← e2]; exact e)
    · rw [e2] at e; injection e with e; omega
  refine ⟨hR.1, hI2, hR.2, own_heap h.kk kown, own_heap h.ww wown, fun e he => ?_, fun k hk he => ?_, h.hb, by simp; omega, .inl h.fT, .inl h.fg, .inl h.fm, fun k hk => ?_, fun k hk => ?_, fun k hk => .inl (h.fk k hk), fun k hk => .inl (h.fw k hk)⟩
  · have E := h.ent e he
    refine ⟨(uT _ _ _ E.box (by decide) (by decide) (by decide)).trans E.box, .inl E.fb, E.nw, ?_, ?_⟩
    · obtain ⟨A', c', ee, hl, hx, hz⟩ := E.rv
      refine ⟨A', c', ee, hl, hx, ?_⟩
      rcases hz with hz | ⟨b, cs, eA, ⟨hf, hr, hpre⟩, hbk, hc⟩
      · exact .inl hz
      · have hbl := lt_of_get hbk
        by_cases hbv : some b = v.ownBlock
        · have hp := hpre hbv
          have hb2 : b ≠ bT := (h.typed hbk (by decide) (by decide)).2.2
          rcases hmv b hbv.symm with hin | hsame
          · -- the row stands where it stood: what was there is a beginning of what is there
            rcases hI.row.2 with ⟨hnil, h0⟩ | ⟨g', cap', cur, he', hb', hh', hr'⟩
            · simp at h0
            · have hg' : g' = b := by rw [he'] at hin; simpa [Value.ownBlock] using hin
              subst hg'
              refine .inr ⟨g', cur, eA, ⟨.inl hf, nr' g' hbl hr, fun _ => hp.trans (List.prefix_append ..)⟩, (u2 g' (by omega) hb2 hr).trans hh', fun j hj => ?_⟩
              have hj2 : j < xs.length := by have := hp.length_le; omega
              obtain ⟨b2, e2, hc2⟩ := row_cell (A := some ⟨g', 0, none⟩) (n := (xs ++ [s]).length) (c := cap') (by have := hI.row; rwa [he'] at this) j (by simp; omega)
              injection e2 with e2
              injection e2 with e2
              subst e2
              have hc3 := (blk_cell hh' j).symm.trans hc2
              rw [hc3]
              obtain ⟨zs2, hzs2⟩ := hp
              congr 2
              simp only [rdOf, Int.toNat_natCast, List.getD_eq_getElem?_getD]
              rw [List.getElem?_append_left hj2, ← hzs2, List.getElem?_append_left hj]
          · have := (u2 b (by omega) hb2 hr).trans hsame
            exact .inr ⟨b, cs, eA, ⟨.inl hf, nr' b hbl hr, fun _ => hp.trans (List.prefix_append ..)⟩, this.trans hbk, hc⟩
        · exact .inr ⟨b, cs, eA, ⟨.inl hf, nr' b hbl hr, fun e2 => absurd e2 (nv' b hbl hbv)⟩, (u9 b cs hbk hbv hr).trans hbk, hc⟩
    · obtain ⟨A', c', ee, hl, hx, hz⟩ := E.ru
      refine ⟨A', c', ee, hl, hx, hz.imp id ?_⟩
      rintro ⟨b, cs, eA, ⟨hf, hr, hv⟩, hbk, hc⟩
      have hbl := lt_of_get hbk
      exact ⟨b, cs, eA, ⟨.inl hf, nr' b hbl hr, nv' b hbl hv⟩, (u9 b cs hbk hv hr).trans hbk, hc⟩
  · rcases hat2 with e2 | ⟨b, e2, hle⟩
    · exact hv'r k hk (by rw [← e2]; exact he)
    · rw [e2] at he
      injection he with he
      have := own_lt hI.row k hk
      omega
  · rcases hat with e2 | ⟨b, e2, hle⟩
    · exact .inl (h.fv k (by rw [← e2]; exact hk))
    · rw [e2] at hk; injection hk with hk; exact .inr (by omega)
  · rcases hat2 with e2 | ⟨b, e2, hle⟩
    · exact .inl (h.fr k (by rw [← e2]; exact hk))
    · rw [e2] at hk; injection hk with hk; exact .inr (by omega)
end Go.Proofs.Ytaeijlkogenblaa.Nt
