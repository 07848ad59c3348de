/- Parts of NamesTexts. Conditions: each theorem's own. -/
import Derived.Test.YtaeijlkogenblaaIxSIt
import Derived.Test.YtaeijlkogenblaaWArr
import Derived.Test.YtaeijlkogenblaaWFloat
import Derived.Test.YtaeijlkogenblaaWMap
import Derived.Test.YtaeijlkogenblaaWAll
import Derived.ArgAppend
import Derived.OwnWalk
namespace Go.Proofs.Ytaeijlkogenblaa.Nt
open Go.RowKit Go.Shelf Go.Proofs.YtaeijlkogenblaaW.Raw Go.Proofs.YtaeijlkogenblaaW.PrintWords Go.Proofs.YtaeijlkogenblaaW.PrintLast Go.Proofs.Ytaeijlkogenblaa.IxS
set_option linter.unusedVariables false
set_option linter.unusedSimpArgs false
theorem grown_any {w w' : World} {row : Option Nat} (h : w.grownBy w' none) : w.grownBy w' row := ⟨h.os, h.tape, h.output, h.size, fun k hk _ => h.block k hk (by simp)⟩
section
variable {P : Program} {ops : Array Oper} {rest : List Oper} {o : Oper} {a : Act} {Q : Exit → Act → World → Prop} {α : Type}
/-- append(v, x), behind 'at_builtin': the row grows where it stands, or it moves and its elder block stays as it was. -/
theorem R_append_two (d : Kd α) {w0 W : World} (base : Nat) (hgd : o.guard = none) (s x : Operand) (t e : TypeId) (z : Value) (bytes : Nat)
    (ho : o.op = .call { callee := .builtin .append, args := #[s, x], argTypes := #[t, t] })
    (ht : P.underlying t = some (.slice e)) (hinfo : (P.info? e).map (fun i => (i.zero, i.size, i.bytes)) = some (some z, d.sz, bytes)) (hz : z.cells.size = d.sz) (hs0 : 0 < d.sz) (hb0 : 0 < bytes)
    (v : Value) (xs : List α) (p : α) (cs : List Value) (ok okp : Nat → Prop) (hs : a.eval s = v) (hx : a.eval x = .slice (some ⟨W.heap.size, 0, none⟩) 1 1) (hp : d.M W base okp p cs) (hokp : ∀ k, okp k → ok k ∧ some k ≠ v.ownBlock) (hfresh : ∀ k, W.heap.size ≤ k → ok k)
    (HO : d.R e W base ok v xs) (HB : Below base w0 W) (hbase : base ≤ W.heap.size) (hl : (xs.length + 1) * bytes ≤ 140737488355328)
    (h : ∀ v1 w1, d.R e w1 base ok v1 (xs ++ [p]) → Below base w0 w1 → ((∃ g c, v = .slice (some ⟨g, 0, none⟩) xs.length c ∧ v1 = .slice (some ⟨g, 0, none⟩) (xs.length + 1) c ∧ W.grownBy w1 (some g)) ∨ ((∃ b, v1.ownBlock = some b ∧ W.heap.size ≤ b) ∧ W.grownBy w1 none)) → wpList P ops Q rest (a.put o.dst v1) w1) :
    wpList P ops Q (o :: rest) a (W.alloc (.cells cs.toArray e)) := by
  obtain ⟨h0, inner, hown, hr⟩ := HO
  obtain ⟨i0, hi, hzz⟩ := Option.map_eq_some_iff.1 hinfo
  simp only [Prod.mk.injEq] at hzz
  obtain ⟨hz0, hz1, hz2⟩ := hzz
  have hcs : cs.length = d.sz := d.K_len (d.K_of_M hp)
  have h1 := d.K_one (d.K_of_M hp)
  have hlen : xs.length + 1 ≤ 140737488355328 := Nat.le_trans (Nat.le_mul_of_pos_right _ hb0) hl
  have hnews : ∀ j u, cs[j]? = some u → (W.alloc (.cells cs.toArray e)).cell? ((⟨W.heap.size, 0, none⟩ : Addr).add j) = some u := by simpa using World.news_of_block (cs := cs.toArray) (t := e) (fr := (0, 0)) (heap_alloc_new W (.cells cs.toArray e))
  have hga : ∀ row, W.grownBy (W.alloc (.cells cs.toArray e)) row := fun row => World.grownBy_alloc W _ _
  have hml : xs.length + 1 ≤ maxLen := by simp only [maxLen]; omega
  have hgrow : ∀ (v' : Value) (w' : World), w'.ownsRow (W.alloc (.cells cs.toArray e)).heap.size e d.sz v' (xs.length + 1) (inner ++ cs) → (W.alloc (.cells cs.toArray e)).grownBy w' none → wpList P ops Q rest (a.put o.dst v') w' := by
    intro v' w' hw hg
    obtain ⟨b, hb, hle⟩ : ∃ b, v'.ownBlock = some b ∧ W.heap.size ≤ b := by
      rcases hw.2 with ⟨_, h2⟩ | ⟨g, cap, cur, rfl, hb, _⟩
      · omega
      · exact ⟨g, rfl, Nat.le_trans (by simp) hb⟩
    have hown2 : w'.ownsRow base e d.sz v' (xs.length + 1) (inner ++ cs) := by
      refine ⟨hw.1, hw.2.imp (fun h => h) ?_⟩
      rintro ⟨g, cap, cur, e1, e2, e3⟩
      exact ⟨g, cap, cur, e1, Nat.le_trans (Nat.le_trans hbase (by simp)) e2, e3⟩
    have hg2 : W.grownBy w' none := World.grownBy.trans (hga none) hg
    exact h v' w' (Kd.R_appended h0 hr hp hokp hfresh hown2 (grown_any hg2) (.inr ⟨b, hb, hle⟩)) (HB.grown hg2 hbase (fun k hk => by cases hk)) (.inr ⟨⟨b, hb, hle⟩, hg2⟩)
  have hown0 := hown
  rcases hown.2 with ⟨rfl, hn0⟩ | ⟨g, cap, cur, rfl, hb, hh, hnc, hcm, hcs2, htk⟩
  · have hin : inner = [] := List.eq_nil_of_length_eq_zero (by rw [hown.1, hn0]; simp)
    refine wpList_append_grows (W.alloc (.cells cs.toArray e)) hgd s x t ho e i0 z d.sz bytes ht hi hz0 hz1 hz2 hz hs0 none 0 0 [] hs (fun _ => ⟨rfl, rfl⟩) (by simp) (fun b hb => by cases hb) ⟨W.heap.size, 0, none⟩ 1 1 cs hx (by rw [hcs]; simp) hnews h1 (by omega) (by simp only [maxLen]; omega) (by rw [hn0] at hl; exact hl) ?_
    intro v' w' hw hg
    refine hgrow v' w' ?_ hg
    rw [hin, hn0]
    exact hw
  · by_cases hfit : xs.length + 1 ≤ cap
    · refine wpList_append_fits (W.alloc (.cells cs.toArray e)) hgd s x t ho base e i0 d.sz ht hi hz1 g xs.length cap inner hs (hown0.alloc _) ⟨W.heap.size, 0, none⟩ 1 1 cs hx (by rw [hcs]; simp) hnews h1 hfit ?_
      intro w' hw hg
      have hg2 : W.grownBy w' (some g) := World.grownBy.trans (hga (some g)) hg
      exact h _ w' (Kd.R_appended h0 hr hp hokp hfresh hw hg2 (.inl rfl)) (HB.grown hg2 hbase (fun k hk => by injection hk with hk; omega)) (.inl ⟨g, cap, rfl, rfl, hg2⟩)
    · refine wpList_append_grows (W.alloc (.cells cs.toArray e)) hgd s x t ho e i0 z d.sz bytes ht hi hz0 hz1 hz2 hz hs0 (some ⟨g, 0, none⟩) xs.length cap inner hs (fun h => by cases h) hown.1 ?_ ⟨W.heap.size, 0, none⟩ 1 1 cs hx (by rw [hcs]; simp) hnews h1 (by omega) hml hl hgrow
      intro b hb2 j u hu
      injection hb2 with hb2
      subst hb2
      have hlt : j < xs.length * d.sz := by
        have := (List.getElem?_eq_some_iff.1 hu).1
        rw [hown.1] at this
        exact this
      have hold : (W.alloc (.cells cs.toArray e)).heap[g]? = some (.cells cur e (0, 0)) := (heap_alloc_old W _ (blk_lt hh)).trans hh
      rw [← htk, List.getElem?_take_of_lt hlt] at hu
      rw [Addr.add_lit, Nat.zero_add]
      refine (blk_cell hold j).trans ?_
      simpa using hu
end
section
variable {P : Program} {ops : Array Oper} {rest : List Oper} {o : Oper} {a : Act} {Q : Exit → Act → World → Prop} {α : Type}
/-- The same for a row of cells: the elder block is the row's still, or as it was. -/
theorem print_append_two (enc : α → Value) (h1e : ∀ x, (enc x).oneCell' = true) {w0 W : World} (base : Nat) (hgd : o.guard = none) (s x : Operand) (t e : TypeId) (z : Value) (bytes : Nat)
    (ho : o.op = .call { callee := .builtin .append, args := #[s, x], argTypes := #[t, t] })
    (ht : P.underlying t = some (.slice e)) (hinfo : (P.info? e).map (fun i => (i.zero, i.size, i.bytes)) = some (some z, 1, bytes)) (hz : z.cells.size = 1) (hb0 : 0 < bytes)
    (v : Value) (xs : List α) (y : α) (hs : a.eval s = v) (hx : a.eval x = .slice (some ⟨W.heap.size, 0, none⟩) 1 1)
    (HO : W.ownsRow base e 1 v xs.length (encs enc xs)) (HB : Below base w0 W) (hbase : base ≤ W.heap.size) (hl : (xs.length + 1) * bytes ≤ 140737488355328)
    (h : ∀ v1 w1, w1.ownsRow base e 1 v1 (xs ++ [y]).length (encs enc (xs ++ [y])) → Below base w0 w1 → W.grownBy w1 v.ownBlock → (v1.ownBlock = v.ownBlock ∨ ∃ b, v1.ownBlock = some b ∧ W.heap.size ≤ b) → (∀ k, v.ownBlock = some k → v1.ownBlock = some k ∨ w1.heap[k]? = W.heap[k]?) → wpList P ops Q rest (a.put o.dst v1) w1) :
    wpList P ops Q (o :: rest) a (W.alloc (.cells #[enc y] e)) := by
  refine R_append_two (Kd.scalar enc h1e) base hgd s x t e z bytes ho ht hinfo hz (Nat.zero_lt_one) hb0 v xs y [enc y] (fun _ => True) (fun _ => False) hs hx rfl (fun _ hk => hk.elim) (fun _ _ => trivial) (Kd.R_of_own HO (fun _ _ => trivial)) HB hbase hl ?_
  intro v1 w1 hR hB hc
  have hown := Kd.own_of_R hR
  have hbk : ∀ k, v.ownBlock = some k → k < W.heap.size := fun k hk => own_lt HO k hk
  rcases hc with ⟨g, c, e1, e2, hg⟩ | ⟨hb, hg⟩
  · have ev : v.ownBlock = some g := by rw [e1]; simp [Value.ownBlock]
    have ev1 : v1.ownBlock = some g := by rw [e2]; simp [Value.ownBlock]
    exact h v1 w1 hown hB (by rw [ev]; exact hg) (.inl (ev1.trans ev.symm)) (fun k hk => .inl (by rw [ev1, ← ev]; exact hk))
  · exact h v1 w1 hown hB (grown_any hg) (.inr hb) (fun k hk => .inr (hg.block k (hbk k hk) (by simp)))
end
theorem new_end2 (k : ByteArray) (xs : List ByteArray) (base g m : Nat) (A : Option Addr) (c : Nat) (w : World) (h : Idx w base g m (.slice A xs.length c) xs) (w1 : World) (A1 : Option Addr) (c1 : Nat)
    (hown : w1.ownsRow base 9 1 (.slice A1 (xs ++ [k]).length c1) (xs ++ [k]).length (encs Value.string (xs ++ [k]))) (hb1 : Below base w w1) (hg1 : w.grownBy w1 (Value.slice A xs.length c).ownBlock)
    (hat : (Value.slice A1 (xs ++ [k]).length c1).ownBlock = (Value.slice A xs.length c).ownBlock ∨ ∃ b, (Value.slice A1 (xs ++ [k]).length c1).ownBlock = some b ∧ w.heap.size ≤ b)
    (W2 W3 : World) (h2 : W2 = w1.setCell ⟨g, 1, none⟩ (.slice A1 (xs.length + 1) c1)) (h3 : W3 = { W2 with drawn := W2.drawn + 1 }) (es : Array MapEntry) (cl : Nat)
    (hraw : IsRaw (ChangeMaps.setBlock W3 m (.map es cl)) m ((xs ++ [k]).map Value.string) (vals xs.length ++ [.int .i64 ((xs.length : Int) + 1)])) :
    ∃ v', Idx (ChangeMaps.setBlock W3 m (.map es cl)) base g m v' (xs ++ [k]) ∧ Below base w (ChangeMaps.setBlock W3 m (.map es cl)) ∧ Kept w (ChangeMaps.setBlock W3 m (.map es cl)) (fun i => i = g ∨ i = m ∨ some i = (Value.slice A xs.length c).ownBlock) ∧ (v'.ownBlock = (Value.slice A xs.length c).ownBlock ∨ ∃ b, v'.ownBlock = some b ∧ w.heap.size ≤ b) ∧ v'.ownBlock = (Value.slice A1 (xs ++ [k]).length c1).ownBlock := by
  have hl : (xs ++ [k]).length = xs.length + 1 := by simp
  have hne : some g ≠ (Value.slice A xs.length c).ownBlock := own_ne h.row h.blk (by decide)
  have hgl : g < w.heap.size := (Array.getElem?_eq_some_iff.1 h.blk).1
  have hblk1 : w1.heap[g]? = some (.cells #[.map (some m), .slice A xs.length c] 78 (0, 0)) := (hg1.block g hgl hne).trans h.blk
  have hmg : m ≠ g := IxS.raw_ne_blk h.raw h.blk
  have hvals : vals xs.length ++ [.int .i64 ((xs.length : Int) + 1)] = vals (xs ++ [k]).length := by rw [hl]; unfold vals; rw [List.range_succ, List.map_append]; rfl
  have hheap3 : W3.heap = W2.heap := by rw [h3]
  have hsz2 : W2.heap.size = w1.heap.size := by rw [h2]; simp [World.setCell]
  have hrow1 : W2.ownsRow base 9 1 (.slice A1 (xs ++ [k]).length c1) (xs ++ [k]).length (encs Value.string (xs ++ [k])) := by rw [h2]; exact own_setCell hown (p := ⟨g, 1, none⟩) (own_ne hown hblk1 (by decide)) _
  have hblk2 : W2.heap[g]? = some (.cells #[.map (some m), .slice A1 (xs ++ [k]).length c1] 78 (0, 0)) := by rw [h2, hl]; exact blk_set hblk1 1 _
  have hmne : some m ≠ (Value.slice A1 (xs ++ [k]).length c1).ownBlock := by
    rcases hat with e | ⟨b, e, hle⟩
    · rw [e]; exact IxS.raw_ne h.raw h.row
    · rw [e]; intro he; injection he with he; have := h.raw.lt; omega
  refine ⟨_, ⟨?_, by rw [← hvals]; exact hraw, ?_, h.hg, h.hm⟩, ?_, ?_, hat, rfl⟩
  · rw [IxS.set_other (Ne.symm hmg), hheap3]; exact hblk2
  · refine own_heap hrow1 (fun j hj => ?_)
    rw [IxS.set_other (fun e => hmne (by rw [hj, e])), hheap3]
  · refine IxS.below_set_map ?_ h.hm
    have hb2 : Below base w W2 := by rw [h2]; exact hb1.setCell (p := ⟨g, 1, none⟩) h.hg _
    rw [h3]
    exact ⟨hb2.os, hb2.tape, hb2.output, hb2.size, hb2.block⟩
  · refine IxS.kept_set_map ?_ (.inr (.inl rfl))
    have hk1 : Kept w w1 (fun i => i = g ∨ i = m ∨ some i = (Value.slice A xs.length c).ownBlock) := (Kept.refl w _).of_grown hg1 (fun j hj => .inl (.inr (.inr hj.symm)))
    have hk2 : Kept w W2 (fun i => i = g ∨ i = m ∨ some i = (Value.slice A xs.length c).ownBlock) := by rw [h2]; exact hk1.setCell (p := ⟨g, 1, none⟩) (.inl (.inl rfl)) _
    rw [h3]
    exact hk2
set_option maxRecDepth 100000 in
theorem of_new2 (k : ByteArray) (xs : List ByteArray) (base g m : Nat) (v : Value) (w : World) (h : Idx w base g m v xs) (hi : xs.findIdx? (fun b => eqk k b) = none) (hl : xs.length < 1048576) :
    Calls Try.prog 9 #[.pointer (some ⟨g, 0, none⟩), Value.string k] w fun e w' => e = .returned (.int .i64 ((xs.length : Int) + 1)) ∧ ∃ v', Idx w' base g m v' (xs ++ [k]) ∧ Below base w w' ∧ Kept w w' (fun i => i = g ∨ i = m ∨ some i = v.ownBlock) ∧ (v'.ownBlock = v.ownBlock ∨ ∃ b, v'.ownBlock = some b ∧ w.heap.size ≤ b) ∧ (∀ k, v.ownBlock = some k → v'.ownBlock = some k ∨ w'.heap[k]? = w.heap[k]?) := by
  have hc0 := (cell_of h.blk 0).1
  have hc1 := (cell_of h.blk 1).1
  have hlk : (Instr.lookup 76 (.map (some m)) (Value.string k) true).run Try.prog w = .ok (.tuple #[.int .i64 0, .bool false]) w := by
    have := run_look key Try.underlying76 (zero3 w) h.raw k
    rwa [lkVal_none hi, lkOk_none hi] at this
  obtain ⟨A, c, rfl⟩ := own_slice h.row
  have hle : decide ((1048576 : Int) ≤ (xs.length : Int)) = false := decide_eq_false (by omega)
  have hgl : g < w.heap.size := (Array.getElem?_eq_some_iff.1 h.blk).1
  have hne : some g ≠ (Value.slice A xs.length c).ownBlock := own_ne h.row h.blk (by decide)
  have HO := Lib.hid h.row
  have HN := Lib.hid hne
  have HL := Lib.hid hl
  have HI := Lib.hid hi
  have HH := Lib.hid h
  have HG := Lib.hid hgl
  have HR := Lib.hid h.raw
  have HB := Lib.hid h.blk
  have HM := Lib.hid h.hg
  clear hl hi h hne hgl
  go_enter Try.func9, Try.ntmps9
  go_wp2_with (at_builtin; go_must (refine print_append_two Value.string (fun _ => rfl) base rfl _ _ 22 9 (.string ⟨#[]⟩) 16 rfl Try.underlying22 info9 rfl (by decide) (.slice A xs.length c) xs k rfl rfl HO.out (Below.refl base w) (Nat.le_trans HM.out (Nat.le_of_lt HG.out)) (by have := HL.out; omega) ?_); intro v1 w1 hown hb1 hg1 hat hmv; have HMV := Lib.hid hmv; clear hmv; obtain ⟨A1, c1, hv⟩ := own_slice hown; rw [hv]; rw [hv] at hown hat HMV; clear hv; have hblk : w1.heap[g]? = some (.cells #[.map (some m), .slice A xs.length c] 78 (0, 0)) := (hg1.block g HG.out HN.out).trans HB.out; have hd0 := (cell_of hblk 0).1; have hd1 := (cell_of hblk 1).1; have hf1 := (cell_of hblk 1).2; have HOW := Lib.hid hown; have HB1 := Lib.hid hb1; have HG1 := Lib.hid hg1; have HAT := Lib.hid hat; have HBK := Lib.hid hblk; clear hown hb1 hg1 hat hblk hc0 hc1 hlk)
  have HF1 := Lib.hid hf1
  have HBK2 := Lib.hid (blk_set HBK.out 1 (.slice A1 (xs.length + 1) c1))
  have HOW2 := Lib.hid (own_setCell HOW.out (p := ⟨g, 1, none⟩) (own_ne HOW.out HBK.out (by decide)) (.slice A1 (xs.length + 1) c1))
  have HR2 := Lib.hid (show IsRaw (w1.setCell ⟨g, 1, none⟩ (.slice A1 (xs.length + 1) c1)) m (xs.map Value.string) (vals xs.length) from (HR.out.move (HG1.out.block m HR.out.lt (IxS.raw_ne HR.out HO.out))).move (Below.heap_setCell _ ⟨g, 1, none⟩ _ m (fun e => IxS.raw_ne_blk (HR.out.move (HG1.out.block m HR.out.lt (IxS.raw_ne HR.out HO.out))) HBK.out e)))
  obtain ⟨W2, hW2⟩ : ∃ W2, W2 = w1.setCell ⟨g, 1, none⟩ (.slice A1 (xs.length + 1) c1) := ⟨_, rfl⟩
  rw [← hW2]
  refine wp_region_still_tail 10 (by kernel_rfl) (by kernel_rfl) ?_
  obtain ⟨W3, hW3⟩ : ∃ W3 : World, W3 = { W2 with drawn := W2.drawn + 1 } := ⟨_, rfl⟩
  rw [← hW3]
  have hH : W3.heap = w1.heap.modify g (fun | .cells c elem frozen => .cells (c.setIfInBounds 1 (.slice A1 (xs.length + 1) c1)) elem frozen | o => o) := by rw [hW3, hW2]; rfl
  have HBK3 := Lib.hid (show W3.heap[g]? = some (.cells #[.map (some m), .slice A1 (xs.length + 1) c1] 78 (0, 0)) from by rw [hW3, hW2]; exact HBK2.out)
  have hk0 := (cell_of HBK3.out 0).1
  have hk1 := (cell_of HBK3.out 1).1
  have HR3 := Lib.hid (show IsRaw W3 m (xs.map Value.string) (vals xs.length) from by rw [hW3, hW2]; exact HR2.out)
  have HH3 := Lib.hid hW3
  have HH2 := Lib.hid hW2
  clear hW3 hW2 hH hd0 hd1 hf1
  simp only [List.take_succ_cons, List.take_zero, List.drop_succ_cons, List.drop_zero]
  repeat still_step
  try refine wpStill_nil ?_
  go_wp2_with (at_mapUpdate; go_must (refine wpList_new rfl _ _ _ rfl key Try.underlying76 rfl HR3.out k rfl (.int .i64 ((xs.length : Int) + 1)) rfl HI.out ?_); intro es cl hraw; have hbk4 : (ChangeMaps.setBlock W3 m (.map es cl)).heap[g]? = some (.cells #[.map (some m), .slice A1 (xs.length + 1) c1] 78 (0, 0)) := ((IxS.set_other (Ne.symm (IxS.raw_ne_blk HR3.out HBK3.out))).trans HBK3.out); have hj1 := (cell_of hbk4 1).1; have HBK4 := Lib.hid hbk4; have HRW := Lib.hid hraw; clear hraw hbk4)
  go_ret
  obtain ⟨v', hv1, hv2, hv3, hv4, hvo⟩ := new_end2 k xs base g m A c w HH.out w1 A1 c1 HOW.out HB1.out HG1.out HAT.out W2 W3 HH2.out HH3.out es cl HRW.out
  refine ⟨rfl, v', hv1, hv2, hv3, hv4, fun k hk => (HMV.out k hk).imp (fun h => by rw [hvo]; exact h) (fun h => ?_)⟩
  have hkg : k ≠ g := fun e => by subst e; exact HN.out hk.symm
  have hkm : k ≠ m := fun e => by subst e; exact IxS.raw_ne HR.out HO.out hk.symm
  rw [IxS.set_other hkm, HH3.out]
  show W2.heap[k]? = _
  rw [HH2.out]
  exact (Below.heap_setCell w1 ⟨g, 1, none⟩ _ k hkg).trans h

/-! ### the document's index -/
def pf (xs : List ByteArray) (k : ByteArray) : Int × Bool := match xs.findIdx? (fun b => eqk k b) with | some i => ((i : Int) + 1, true) | none => (0, false)
theorem eqk_iff (a b : ByteArray) : eqk a b = true ↔ a = b := MapKept.bytes_beq a b
theorem list_beq (a b : ByteArray) : (a.toList == b.toList) = (a == b) := (Go.beq_toListBytes a b).symm
theorem idx_none {xs : List ByteArray} {p : ByteArray} (h : ∀ j, j < xs.length → xs[j]? ≠ some p) : xs.findIdx? (fun b => eqk p b) = none := by
  rw [List.findIdx?_eq_none_iff]
  intro y hy
  obtain ⟨j, hj⟩ := List.mem_iff_getElem?.1 hy
  cases hq : eqk p y with
  | false => rfl
  | true =>
    have := (eqk_iff p y).1 hq
    subst this
    exact absurd hj (h j (List.getElem?_eq_some_iff.1 hj).1)
theorem idx_first {xs : List ByteArray} {p : ByteArray} {i : Nat} (hn : ∀ j, j < i → xs[j]? ≠ some p) (h : xs[i]? = some p) : xs.findIdx? (fun b => eqk p b) = some i := by
  obtain ⟨hi, he⟩ := List.getElem?_eq_some_iff.1 h
  rw [List.findIdx?_eq_some_iff_getElem]
  refine ⟨hi, by rw [he]; exact (eqk_iff p p).2 rfl, fun j hj => ?_⟩
  have hj' : j < xs.length := by omega
  intro hq
  have e := (eqk_iff p xs[j]).1 hq
  exact hn j hj (by rw [List.getElem?_eq_getElem hj', ← e])
set_option maxRecDepth 100000 in
theorem rfind_calls (k : ByteArray) (xs : List ByteArray) (A : Option Addr) (c base bT : Nat) (w : World) (hT : w.cell? ⟨bT, 1, none⟩ = some (.slice A xs.length c)) (hr : w.ownsRow base 9 1 (.slice A xs.length c) xs.length (encs Value.string xs)) :
    Calls Try.prog 35 #[.pointer (some ⟨bT, 1, none⟩), .string k] w fun e w' => e = .returned (.tuple #[.int .i64 (pf xs k).1, .bool (pf xs k).2]) ∧ w' = w := by
  have hmx := row_max hr
  have HR := Lib.hid hr
  clear hr
  go_enter Try.func35, Try.ntmps35
  go_wp2
  go_loopw [6] (fun i wr => ∃ q : Nat, q ≤ xs.length ∧ i = .int .i64 q ∧ wr = w ∧ Hid (∀ j, j < q → xs[j]? ≠ some k)) (fun i _ => xs.length - (intOf i).toNat)
  case atStart => exact ⟨0, Nat.zero_le _, rfl, rfl, Lib.hid (fun j hj => absurd hj (Nat.not_lt_zero _))⟩
  case round =>
    obtain ⟨q, hq, rfl, rfl, HN⟩ := hrel
    by_cases hlt : q < xs.length
    · obtain ⟨b, rfl, hcell⟩ := row_cell HR.out q hlt
      obtain ⟨y, hy⟩ : ∃ y, y = rdOf ByteArray.empty xs (q : Int) := ⟨_, rfl⟩
      have hy2 : xs[q]? = some y := by rw [hy]; simp [rdOf, List.getD_eq_getElem?_getD, hlt]
      rw [← hy] at hcell
      have HY := Lib.hid hy2
      clear hy hy2 hq
      by_cases he : y = k
      · subst he
        go_wp2
        go_ret2
        have : xs.findIdx? (fun b => eqk y b) = some q := idx_first HN.out HY.out
        exact ⟨by simp only [pf, this]; rfl, rfl⟩
      · have he2 : (y == k) = false := by
          cases hq : (y == k) with
          | false => rfl
          | true => exact absurd ((MapKept.bytes_beq _ _).1 hq) he
        have he3 : (y.toList == k.toList) = false := (list_beq y k).trans he2
        have HE := Lib.hid he
        clear he
        go_wp2
        go_roundw
        case rel => exact ⟨q + 1, hlt, by go_num, by trivial, Lib.hid (fun j hj => by
          by_cases h1 : j < q
          · exact HN.out j h1
          · obtain rfl : j = q := by omega
            rw [HY.out]
            intro h2
            injection h2 with h2
            exact HE.out h2)⟩
        case measure => simp [intOf]; omega
    · obtain rfl : q = xs.length := by omega
      clear hlt hq
      go_wp2
      go_ret2
      have : xs.findIdx? (fun b => eqk k b) = none := idx_none HN.out
      exact ⟨by simp only [pf, this]; rfl, rfl⟩

def ROw (w : World) (base bT : Nat) (c0 r c2 c3 : Value) (xs : List ByteArray) : Prop := w.heap[bT]? = some (.cells #[c0, r, c2, c3] 45 (0, 0)) ∧ w.ownsRow base 9 1 r xs.length (encs Value.string xs)
set_option maxRecDepth 100000 in
theorem rof_known (k : ByteArray) (xs : List ByteArray) (i : Nat) (base bT : Nat) (c0 r c2 c3 : Value) (w : World) (h : ROw w base bT c0 r c2 c3 xs) (hi : xs.findIdx? (fun b => eqk k b) = some i) :
    Calls Try.prog 34 #[.pointer (some ⟨bT, 1, none⟩), .string k] w fun e w' => e = .returned (.int .i64 ((i : Int) + 1)) ∧ w' = w := by
  obtain ⟨A, c, rfl⟩ := own_slice h.2
  have hc1 := (cell_of h.1 1).1
  have hpf : pf xs k = ((i : Int) + 1, true) := by simp only [pf, hi]
  have HH := Lib.hid h
  have hT : w.cell? ⟨bT, 1, none⟩ = some (.slice A xs.length c) := hc1
  clear h hi hc1
  go_enter Try.func34, Try.ntmps34
  go_wp2_with (first | (go_at_call 35; go_must (refine (rfind_calls k xs A c base bT _ hT HH.out.2).mono ?_); rw [hpf]; rintro e w2 ⟨rfl, rfl⟩))
  go_ret
  exact ⟨rfl, rfl⟩
set_option maxRecDepth 100000 in
theorem rof_full (k : ByteArray) (xs : List ByteArray) (base bT : Nat) (c0 r c2 c3 : Value) (w : World) (h : ROw w base bT c0 r c2 c3 xs) (hi : xs.findIdx? (fun b => eqk k b) = none) (hl : 1048576 ≤ xs.length) :
    Calls Try.prog 34 #[.pointer (some ⟨bT, 1, none⟩), .string k] w fun e w' => e = .returned (.int .i64 0) ∧ w' = w := by
  obtain ⟨A, c, rfl⟩ := own_slice h.2
  have hc1 := (cell_of h.1 1).1
  have hpf : pf xs k = (0, false) := by simp only [pf, hi]
  have HH := Lib.hid h
  have hT : w.cell? ⟨bT, 1, none⟩ = some (.slice A xs.length c) := hc1
  have hle : decide ((1048576 : Int) ≤ (xs.length : Int)) = true := decide_eq_true (by omega)
  clear h hi hc1 hl
  go_enter Try.func34, Try.ntmps34
  go_wp2_with (first | (go_at_call 35; go_must (refine (rfind_calls k xs A c base bT _ hT HH.out.2).mono ?_); rw [hpf]; rintro e w2 ⟨rfl, rfl⟩))
  go_ret
  exact ⟨rfl, rfl⟩
set_option maxRecDepth 100000 in
theorem rof_new (k : ByteArray) (xs : List ByteArray) (base bT : Nat) (c0 r c2 c3 : Value) (w : World) (h : ROw w base bT c0 r c2 c3 xs) (hi : xs.findIdx? (fun b => eqk k b) = none) (hl : xs.length < 1048576) (hb : base ≤ bT) :
    Calls Try.prog 34 #[.pointer (some ⟨bT, 1, none⟩), .string k] w fun e w' => e = .returned (.int .i64 ((xs.length : Int) + 1)) ∧ ∃ r', ROw w' base bT c0 r' c2 c3 (xs ++ [k]) ∧ Below base w w' ∧ Kept w w' (fun j => j = bT ∨ some j = r.ownBlock) ∧ (r'.ownBlock = r.ownBlock ∨ ∃ b, r'.ownBlock = some b ∧ w.heap.size ≤ b) := by
  obtain ⟨A, c, rfl⟩ := own_slice h.2
  have hc1 := (cell_of h.1 1).1
  have hpf : pf xs k = (0, false) := by simp only [pf, hi]
  have HH := Lib.hid h
  have hT : w.cell? ⟨bT, 1, none⟩ = some (.slice A xs.length c) := hc1
  have hle : decide ((1048576 : Int) ≤ (xs.length : Int)) = false := decide_eq_false (by omega)
  have HL := Lib.hid hl
  have HB := Lib.hid hb
  have HT := Lib.hid (Array.getElem?_eq_some_iff.1 h.1).1
  have HN := Lib.hid (show some bT ≠ (Value.slice A xs.length c).ownBlock from own_ne h.2 h.1 (by decide))
  clear h hi hc1 hl hb
  go_enter Try.func34, Try.ntmps34
  go_wp2_with (first | (go_at_call 35; go_must (refine (rfind_calls k xs A c base bT _ hT HH.out.2).mono ?_); rw [hpf]; rintro e w2 ⟨rfl, rfl⟩) | (at_builtin; go_must (refine print_append_of Value.string base rfl _ _ 22 9 (.string ⟨#[]⟩) 16 rfl Try.underlying22 info9 rfl (by decide) (.slice A xs.length c) xs k rfl rfl rfl HH.out.2 (Below.refl base _) (Nat.le_trans HB.out (Nat.le_of_lt HT.out)) (by have := HL.out; omega) ?_); intro v1 w1 hown hb1 hg1 hat; obtain ⟨A1, c1, hv⟩ := own_slice hown; rw [hv]; rw [hv] at hown hat; clear hv; have hblk := (hg1.block bT HT.out HN.out).trans HH.out.1; have hd1 := (cell_of hblk 1).1; have hf1 := (cell_of hblk 1).2; have HOW := Lib.hid hown; have HB1 := Lib.hid hb1; have HG1 := Lib.hid hg1; have HAT := Lib.hid hat; have HBK := Lib.hid hblk; clear hown hb1 hg1 hat hblk hT))
  go_ret
  have hset := blk_set HBK.out 1 (.slice A1 (xs.length + 1) c1)
  have hl2 : (xs ++ [k]).length = xs.length + 1 := by simp
  have hk1 : Kept _ _ (fun j => j = bT ∨ some j = (Value.slice A xs.length c).ownBlock) := (Kept.refl _ _).of_grown HG1.out (fun j hj => .inl (.inr hj.symm))
  refine ⟨rfl, .slice A1 (xs.length + 1) c1, ⟨hset, ?_⟩, HB1.out.setCell (p := ⟨bT, 1, none⟩) HB.out _, hk1.setCell (p := ⟨bT, 1, none⟩) (.inl (.inl rfl)) _, by rw [← hl2]; exact HAT.out⟩
  rw [← hl2]
  exact own_setCell HOW.out (p := ⟨bT, 1, none⟩) (own_ne HOW.out HBK.out (by decide)) _
theorem rat_found (n : Int) (xs : List ByteArray) (base bT : Nat) (c0 r c2 c3 : Value) (w : World) (h : ROw w base bT c0 r c2 c3 xs) (h1 : 1 ≤ n) (h2 : n ≤ xs.length) :
    Calls Try.prog 36 #[.pointer (some ⟨bT, 1, none⟩), .int .i64 n] w fun e w' => e = .returned (.tuple #[.string (rdOf ByteArray.empty xs (n - 1)), .bool true]) ∧ w' = w := by
  have hc1 := (cell_of h.1 1).1
  obtain ⟨A, c, rfl⟩ := own_slice h.2
  obtain ⟨j, rfl⟩ : ∃ j : Nat, n = (j : Int) + 1 := ⟨(n - 1).toNat, by omega⟩
  obtain ⟨b, rfl, hcell⟩ := row_cell h.2 j (by omega)
  have hle := row_max h.2
  rw [show (j : Int) + 1 - 1 = j from by omega]
  clear h
  go_enter Try.func36, Try.ntmps36
  go_wp2
  go_ret2
  exact ⟨rfl, rfl⟩
theorem rat_low (n : Int) (xs : List ByteArray) (base bT : Nat) (c0 r c2 c3 : Value) (w : World) (h : ROw w base bT c0 r c2 c3 xs) (h1 : n < 1) :
    Calls Try.prog 36 #[.pointer (some ⟨bT, 1, none⟩), .int .i64 n] w fun e w' => e = .returned (.tuple #[.string ⟨#[]⟩, .bool false]) ∧ w' = w := by
  clear h
  go_enter Try.func36, Try.ntmps36
  go_wp2
  go_ret2
  exact ⟨rfl, rfl⟩
theorem rat_high (n : Int) (xs : List ByteArray) (base bT : Nat) (c0 r c2 c3 : Value) (w : World) (h : ROw w base bT c0 r c2 c3 xs) (h1 : (xs.length : Int) < n) :
    Calls Try.prog 36 #[.pointer (some ⟨bT, 1, none⟩), .int .i64 n] w fun e w' => e = .returned (.tuple #[.string ⟨#[]⟩, .bool false]) ∧ w' = w := by
  have hc1 := (cell_of h.1 1).1
  obtain ⟨A, c, rfl⟩ := own_slice h.2
  have h0 : decide (n < 1) = false := decide_eq_false (by omega)
  have h3 : decide ((xs.length : Int) < n) = true := decide_eq_true h1
  clear h
  go_enter Try.func36, Try.ntmps36
  go_wp2
  go_ret2
  exact ⟨rfl, rfl⟩
theorem which_calls (n : Int) (a : Nat) (w : World) (hn : (Lit.int .i64 n).wf = true) (ha : (a : Int) ≤ 9223372036854775807) :
    Calls Try.prog 38 #[.int .i64 n, .int .i64 a] w fun e w' => w' = w ∧ ∃ i : Int, e = .returned (.int .i64 i) ∧ ((a = 0 ∧ i = -1) ∨ (0 ≤ i ∧ i < a)) := by
  by_cases h0 : a = 0
  · subst h0
    go_enter Try.func38, Try.ntmps38
    go_wp2
    go_ret
    exact ⟨rfl, _, rfl, by simp⟩
  · have ha0 : ((a : Int) == 0) = false := by simpa using h0
    have hpos : 0 < (a : Int) := by omega
    obtain ⟨q, hq⟩ : ∃ q, q = n.tmod a := ⟨_, rfl⟩
    have hq1 : q < a := by rw [hq]; exact Int.tmod_lt_of_pos n hpos
    have hq2 : -(a : Int) < q := by
      rw [hq]
      have h1 := Int.tmod_lt_of_pos (-n) hpos
      rw [Int.neg_tmod] at h1
      omega
    by_cases hs : q < 0
    · have hs1 : n.tmod a < 0 := hq ▸ hs
      go_enter Try.func38, Try.ntmps38
      go_wp2
      go_ret
      exact ⟨rfl, _, rfl, .inr ⟨by rw [← hq]; omega, by rw [← hq]; omega⟩⟩
    · have hs1 : ¬ n.tmod a < 0 := hq ▸ hs
      go_enter Try.func38, Try.ntmps38
      go_wp2
      go_ret
      exact ⟨rfl, _, rfl, by rw [← hq]; omega⟩
end Go.Proofs.Ytaeijlkogenblaa.Nt
