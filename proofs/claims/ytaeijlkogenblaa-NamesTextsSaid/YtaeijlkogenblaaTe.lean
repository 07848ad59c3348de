/- NamesTexts: All is kept. Conditions: each theorem's own. -/
import Derived.Test.YtaeijlkogenblaaTd
namespace Go.Proofs.Ytaeijlkogenblaa.Nt
open Go.RowKit Go.Shelf Go.Proofs.YtaeijlkogenblaaW.Raw Go.Proofs.YtaeijlkogenblaaW.PrintWords Go.Proofs.YtaeijlkogenblaaW.PrintLast Go.Proofs.Ytaeijlkogenblaa.IxS
set_option linter.unusedVariables false
set_option linter.unusedSimpArgs false
theorem tx_all {base W0 : Nat} {f : Nat → Prop} {W W3 W4 W5 W6 : World} {bT g m : Nat} {A : Option Addr} {c : Nat} {r kp we kp' we' : Value} {xs : List ByteArray} {ks : List KE} {e : KE} (h : Tx base f W bT g m (.slice A xs.length c) r kp we xs ks) (hf : ∀ k, f k → k < W0)
    (eA : e.A = A) (ez : e.zs = xs) (hbx : W.heap[e.b]? = some (.cells #[.slice A xs.length xs.length] 22 (0, 0))) (hb0 : W0 ≤ e.b) (hu : Rds (fun k => W0 ≤ k) W e.u xs)
    (hk3 : W3.ownsRow base 82 1 kp' (ks ++ [e]).length (encs kV (ks ++ [e]))) (hg3 : W.grownBy W3 kp.ownBlock) (hat3 : kp'.ownBlock = kp.ownBlock ∨ ∃ b, kp'.ownBlock = some b ∧ W.heap.size ≤ b) (e4 : W4 = W3.setCell ⟨bT, 2, none⟩ kp')
    (hw5 : W5.ownsRow base 22 1 we' (ks ++ [e]).length (encs KE.u (ks ++ [e]))) (hg5 : W4.grownBy W5 we.ownBlock) (hat5 : we'.ownBlock = we.ownBlock ∨ ∃ b, we'.ownBlock = some b ∧ W4.heap.size ≤ b) (e6 : W6 = W5.setCell ⟨bT, 3, none⟩ we') (hW0 : W0 ≤ W.heap.size) :
    Tx base (fun k => f k ∨ W0 ≤ k) W6 bT g m (.slice A xs.length c) r kp' we' xs (ks ++ [e]) ∧ Kept W W6 f ∧ (Below base W W3 → Below base W4 W5 → Below base W W6) := by
  have hTl := lt_of_get h.blk
  have s3 : W.heap.size ≤ W3.heap.size := hg3.size
  have z4 : W4.heap.size = W3.heap.size := by rw [e4]; simp [World.setCell]
  have s5 : W4.heap.size ≤ W5.heap.size := hg5.size
  have z6 : W6.heap.size = W5.heap.size := by rw [e6]; simp [World.setCell]
  have hkT : some bT ≠ kp.ownBlock := own_ne h.kk h.blk (by decide)
  have hwT : some bT ≠ we.ownBlock := own_ne h.ww h.blk (by decide)
  have p3 : ∀ k, k < W.heap.size → some k ≠ kp.ownBlock → W3.heap[k]? = W.heap[k]? := fun k hk a => hg3.block k hk a
  have p4 : ∀ k, k ≠ bT → W4.heap[k]? = W3.heap[k]? := fun k hk => by rw [e4]; exact Below.heap_setCell _ _ _ _ hk
  have p5 : ∀ k, k < W4.heap.size → some k ≠ we.ownBlock → W5.heap[k]? = W4.heap[k]? := fun k hk a => hg5.block k hk a
  have p6 : ∀ k, k ≠ bT → W6.heap[k]? = W5.heap[k]? := fun k hk => by rw [e6]; exact Below.heap_setCell _ _ _ _ hk
  have uA : ∀ k, k < W.heap.size → k ≠ bT → some k ≠ kp.ownBlock → some k ≠ we.ownBlock → W6.heap[k]? = W.heap[k]? := fun k hk a1 a2 a3 =>
    (p6 k a1).trans ((p5 k (by omega) a3).trans ((p4 k a1).trans (p3 k hk a2)))
  have uT : ∀ (k t : Nat) (cs : Array Value), W.heap[k]? = some (Obj.cells cs t (0, 0)) → t ≠ 45 → 82 ≠ t → 22 ≠ t → W6.heap[k]? = W.heap[k]? := fun k t cs hk h1 h2 h3 =>
    uA k (lt_of_get hk) (fun e2 => blk_ne hk h.blk h1 e2) (own_ne h.kk hk h2) (own_ne h.ww hk h3)
  have un : ∀ k, k < W.heap.size → W0 ≤ k → W6.heap[k]? = W.heap[k]? := fun k hk h0 =>
    uA k hk (fun e2 => by have := hf _ h.fT; omega) (fun e2 => by have := hf _ (h.fk k e2.symm); omega) (fun e2 => by have := hf _ (h.fw k e2.symm); omega)
  have b3 : W3.heap[bT]? = some (.cells #[.pointer (some ⟨g, 0, none⟩), r, kp, we] 45 (0, 0)) := (p3 bT hTl hkT).trans h.blk
  have b4 : W4.heap[bT]? = some (.cells #[.pointer (some ⟨g, 0, none⟩), r, kp', we] 45 (0, 0)) := by rw [e4]; exact blk_set b3 2 kp'
  have b5 : W5.heap[bT]? = some (.cells #[.pointer (some ⟨g, 0, none⟩), r, kp', we] 45 (0, 0)) := (p5 bT (lt_of_get b4) hwT).trans b4
  have b6 : W6.heap[bT]? = some (.cells #[.pointer (some ⟨g, 0, none⟩), r, kp', we'] 45 (0, 0)) := by rw [e6]; exact blk_set b5 3 we'
  have own9 : ∀ {v : Value} {n : Nat} {l : List Value}, W.ownsRow base 9 1 v n l → ∀ k, v.ownBlock = some k → W6.heap[k]? = W.heap[k]? := fun hv k hk => by
    obtain ⟨cs, hcs⟩ := own_typed hv k hk
    exact uT k _ cs hcs (by decide) (by decide) (by decide)
  have hI : Idx W6 base g m (.slice A xs.length c) xs := idx_move h.I (fun i hi hh => by
    rcases hh with e2 | e2 | e2
    · subst e2; exact uT i _ _ h.I.blk (by decide) (by decide) (by decide)
    · subst e2; exact uA i hi (fun e3 => by subst e3; exact IxS.raw_ne_blk h.I.raw h.blk rfl) (IxS.raw_ne h.I.raw h.kk) (IxS.raw_ne h.I.raw h.ww)
    · exact own9 h.I.row i e2.symm)
  have hkk : W6.ownsRow base 82 1 kp' (ks ++ [e]).length (encs kV (ks ++ [e])) := by
    have k4 : W4.ownsRow base 82 1 kp' (ks ++ [e]).length (encs kV (ks ++ [e])) := by rw [e4]; exact own_setCell hk3 (p := ⟨bT, 2, none⟩) (own_ne hk3 b3 (by decide)) _
    have k5 : W5.ownsRow base 82 1 kp' (ks ++ [e]).length (encs kV (ks ++ [e])) := own_heap k4 (fun k hk => p5 k (own_lt k4 k hk) (fun e2 => by
      obtain ⟨cs, hcs⟩ := own_typed h.ww k e2.symm
      obtain ⟨cs', hcs'⟩ := own_typed k4 k hk
      have hkT2 : k ≠ bT := fun e3 => by subst e3; exact blk_ne hcs h.blk (by decide) rfl
      have hk2 := hcs
      rw [← p3 k (lt_of_get hcs) (own_ne h.kk hcs (by decide)), ← p4 k hkT2, hcs'] at hk2
      injection hk2 with hk2
      injection hk2 with _ h2 _
      exact absurd h2 (by decide)))
    rw [e6]; exact own_setCell k5 (p := ⟨bT, 3, none⟩) (own_ne k5 b5 (by decide)) _
  have hww : W6.ownsRow base 22 1 we' (ks ++ [e]).length (encs KE.u (ks ++ [e])) := by rw [e6]; exact own_setCell hw5 (p := ⟨bT, 3, none⟩) (own_ne hw5 b5 (by decide)) _
  have nw' : ∀ k, k < W.heap.size → some k ≠ we.ownBlock → some k ≠ we'.ownBlock := fun k hk hn e2 => by
    rcases hat5 with e3 | ⟨b, e3, hle⟩
    · exact hn (by rw [← e3]; exact e2)
    · rw [e3] at e2; injection e2 with e2; omega
  have hEf : Kept W W6 f := ⟨by omega, fun k hk hn => uA k hk (fun e2 => hn (e2 ▸ h.fT)) (fun e2 => hn (h.fk k e2.symm)) (fun e2 => hn (h.fw k e2.symm))⟩
  refine ⟨⟨b6, hI, own_heap h.rr (own9 h.rr), hkk, hww, fun x hx => ?_, h.vr, h.hb, h.hle, .inl h.fT, .inl h.fg, .inl h.fm, fun k hk => .inl (h.fv k hk), fun k hk => .inl (h.fr k hk), fun k hk => ?_, fun k hk => ?_⟩, hEf, fun hb3 hb5 => ?_⟩
  · rcases List.mem_append.1 hx with hx | hx
    · have E := h.ent x hx
      have hxl := lt_of_get E.box
      have hxb : W6.heap[x.b]? = W.heap[x.b]? := uA _ hxl (fun e2 => blk_ne E.box h.blk (by decide) e2) (own_ne h.kk E.box (by decide)) E.nw
      refine ⟨hxb.trans E.box, .inl E.fb, nw' _ hxl E.nw, ?_, ?_⟩
      · obtain ⟨A', c', ee, hl, hx2, hz⟩ := E.rv
        exact ⟨A', c', ee, hl, hx2, hz.imp id (fun ⟨b, cs, eA2, ⟨h1, h2, h3⟩, hbk, hc⟩ => ⟨b, cs, eA2, ⟨.inl h1, h2, h3⟩, (uT b _ _ hbk (by decide) (by decide) (by decide)).trans hbk, hc⟩)⟩
      · obtain ⟨A', c', ee, hl, hx2, hz⟩ := E.ru
        exact ⟨A', c', ee, hl, hx2, hz.imp id (fun ⟨b, cs, eA2, ⟨h1, h2, h3⟩, hbk, hc⟩ => ⟨b, cs, eA2, ⟨.inl h1, h2, h3⟩, (uT b _ _ hbk (by decide) (by decide) (by decide)).trans hbk, hc⟩)⟩
    · obtain rfl := List.mem_singleton.1 hx
      have hxl := lt_of_get hbx
      refine ⟨?_, .inr hb0, nw' _ hxl (fun e2 => by have := hf _ (h.fw _ e2.symm); omega), ?_, ?_⟩
      · rw [eA, ez]; exact (un _ hxl hb0).trans hbx
      · rw [eA, ez]
        refine ⟨A, xs.length, rfl, Nat.le_refl _, h.hle, ?_⟩
        rcases hI.row.2 with ⟨hnil, h0⟩ | ⟨g', cap', cur, he', hb', hh', hr'⟩
        · exact .inl (List.eq_nil_of_length_eq_zero h0)
        · have hA : A = some ⟨g', 0, none⟩ := by injection he'
          have hown : (Value.slice A xs.length c).ownBlock = some g' := by rw [he']; simp [Value.ownBlock]
          refine .inr ⟨g', cur, hA, ⟨.inl (h.fv g' hown), fun e2 => h.vr g' hown e2.symm, fun _ => List.prefix_refl _⟩, hh', fun j hj => ?_⟩
          obtain ⟨b2, e2, hc2⟩ := row_cell (n := xs.length) hI.row j hj
          rw [hA] at e2
          injection e2 with e2
          injection e2 with e2
          subst e2
          exact (blk_cell hh' j).symm.trans hc2
      · rw [ez]
        obtain ⟨A', c', ee, hl, hx2, hz⟩ := hu
        refine ⟨A', c', ee, hl, hx2, hz.imp id (fun ⟨b, cs, eA2, hb1, hbk, hc⟩ => ⟨b, cs, eA2, ⟨.inr hb1, fun e2 => by have := hf _ (h.fr _ e2.symm); omega, fun e2 => by have := hf _ (h.fv _ e2.symm); omega⟩, (un b (lt_of_get hbk) hb1).trans hbk, hc⟩)⟩
  · rcases hat3 with e3 | ⟨b, e3, hle⟩
    · exact .inl (h.fk k (by rw [← e3]; exact hk))
    · rw [e3] at hk; injection hk with hk; exact .inr (by omega)
  · rcases hat5 with e3 | ⟨b, e3, hle⟩
    · exact .inl (h.fw k (by rw [← e3]; exact hk))
    · rw [e3] at hk; injection hk with hk; exact .inr (by omega)
  · have h4 : Below base W W4 := by rw [e4]; exact hb3.setCell (p := ⟨bT, 2, none⟩) h.hb _
    rw [e6]
    exact (h4.trans hb5).setCell (p := ⟨bT, 3, none⟩) h.hb _
end Go.Proofs.Ytaeijlkogenblaa.Nt
