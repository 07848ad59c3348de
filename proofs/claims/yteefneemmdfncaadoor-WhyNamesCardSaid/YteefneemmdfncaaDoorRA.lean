import Derived.Test.YteefneemmdfncaaDoorWMap
import Derived.Test.YteefneemmdfncaaDoorF0
import Derived.Test.YteefneemmdfncaaDoorProg
import Derived.Outline
import Derived.Lib.Hide
import Derived.Deep.DeepMust
import Derived.Deep.RegionHeld3
import Derived.Deep.QuietTactic
import Derived.BigQuiet
import Derived.StillTailTactics
import Derived.WalkKit
import Derived.OwnWalk
import Derived.Deep.AppendLies
import Derived.Deep.DrawnRows
import Derived.Shelf.Abstract
import Derived.Test.YteefneemmdfncaaDoorWZeros
import Derived.Lib.SliceRun
/- reach.lines: of each name, the names that it leads to, in the pairs' order, as a map of rows. Conditions: the pairs read as they must, and are at most 16777216.
reach.lines, walked. Conditions: the pairs read as they must, and are at most 16777216.
reach.Close over texts: what is put into the set and the list, and what is reached. Conditions: each theorem's own.
reach.Close over texts, walked: the list is what the rounds give. Conditions: what comes next keeps the call's own memory, and no more than 16777216 things are reached.
reach.Up: what is reached from a name along pairs. Conditions: the pairs read as they must, and are at most 16777215.
slices.Grow from nothing, slices.Concat of two lists of pairs. Conditions: the lists read as they must, together at most 16777216.
slices.Concat of two lists of pairs. Conditions: the lists read as they must, together at most 16777216.
mean.stand: a side of a name along two lists of pairs. Conditions: the lists read as they must, together at most 16777215. -/
namespace Go.Proofs.YteefneemmdfncaaDoor.M
open Go.RowKit Go.Proofs.YteefneemmdfncaaDoorW.Raw Go.Proofs.YteefneemmdfncaaDoorW.PrintWords Go.Proofs.YteefneemmdfncaaDoor.F
set_option linter.unusedVariables false

abbrev encS (l : List ByteArray) : List Value := encs Value.string l
def tos (ps : List S97) (k : ByteArray) : List ByteArray := (ps.filter fun p => p.f0 == k).map (·.f1)
/-- Block m is a map from names to rows of names; no two rows lie in one block. -/
structure Grp (w : World) (base m : Nat) (ks : List ByteArray) (vs : List Value) (T : ByteArray → List ByteArray) : Prop where
  raw : IsRaw w m (ks.map Value.string) vs
  nd : ks.Nodup
  row : ∀ (i : Nat) k v, ks[i]? = some k → vs[i]? = some v → w.ownsRow base 9 1 v (T k).length (encS (T k))
  out : ∀ k, k ∉ ks → T k = []
  apart : ∀ (i j : Nat) v v' b, i ≠ j → vs[i]? = some v → vs[j]? = some v' → v.ownBlock = some b → v'.ownBlock ≠ some b
  hm : base ≤ m
theorem keyS : Key Tryd.prog 9 Value.string (fun a b => a == b) := key_string Tryd.underlying9
theorem zeroSs (w : World) : (zeroValue 22).run Tryd.prog w = .ok (.slice none 0 0) w := by kernel_rfl
theorem infoS : (Tryd.prog.info? 9).map (fun i => (i.zero, i.size, i.bytes)) = some (some (.string ⟨#[]⟩), 1, 16) := by kernel_rfl
theorem bb (a b : ByteArray) : (a == b) = true ↔ a = b := MapKept.bytes_beq a b
theorem tos_snoc (ps : List S97) (p : S97) (k : ByteArray) : tos (ps ++ [p]) k = tos ps k ++ if p.f0 = k then [p.f1] else [] := by
  unfold tos
  rw [List.filter_append, List.map_append]
  congr 1
  by_cases h : p.f0 = k
  · have : (p.f0 == k) = true := (bb _ _).2 h
    simp [List.filter, h]
    rw [h] at this
    simp [this]
  · have : (p.f0 == k) = false := by cases hq : (p.f0 == k) with
      | false => rfl
      | true => exact absurd ((bb _ _).1 hq) h
    simp [List.filter, h, this]

variable {w w1 w2 : World} {base m : Nat} {ks : List ByteArray} {vs : List Value} {T : ByteArray → List ByteArray}
theorem Grp.move (h : Grp w base m ks vs T) (hm : w1.heap[m]? = w.heap[m]?) (hr : ∀ (i : Nat) v b, vs[i]? = some v → v.ownBlock = some b → w1.heap[b]? = w.heap[b]?) : Grp w1 base m ks vs T :=
  ⟨h.raw.move hm, h.nd, fun i k v hk hv => own_move (h.row i k v hk hv) (fun b hb => hr i v b hv hb), h.out, h.apart, h.hm⟩
theorem Grp.key (h : Grp w base m ks vs T) {i : Nat} {v : Value} (hv : vs[i]? = some v) : ∃ k, ks[i]? = some k := by
  have h1 := h.raw.len
  have h2 := (List.getElem?_eq_some_iff.1 hv).1
  exact ⟨_, List.getElem?_eq_getElem (by omega)⟩
theorem Grp.lt (h : Grp w base m ks vs T) {i : Nat} {v : Value} {b : Nat} (hv : vs[i]? = some v) (hb : v.ownBlock = some b) : b < w.heap.size := by
  obtain ⟨k, hk⟩ := h.key hv
  exact own_lt (h.row i k v hk hv) b hb
theorem Grp.below (h : Grp w base m ks vs T) (hb : Below w.heap.size w w1) : Grp w1 base m ks vs T :=
  h.move (hb.block m h.raw.lt) (fun i v b hv hv2 => hb.block b (h.lt hv hv2))
/-- What a look-up finds. -/
def lookRow (ks : List ByteArray) (vs : List Value) (k : ByteArray) : Value := lkVal (fun a b => a == b) (.slice none 0 0) ks vs k
theorem Grp.look (h : Grp w base m ks vs T) (k : ByteArray) : w.ownsRow base 9 1 (lookRow ks vs k) (T k).length (encS (T k)) := by
  by_cases hk : k ∈ ks
  · obtain ⟨i, h1, h2⟩ := find_some_of hk
    have hl := h.raw.len
    have h3 := (List.getElem?_eq_some_iff.1 h2).1
    have hv : vs[i]? = some (vs.getD i default) := by rw [List.getD_eq_getElem?_getD, List.getElem?_eq_getElem (by omega)]; rfl
    rw [lookRow, lkVal_some h1]
    exact h.row i k _ h2 hv
  · rw [lookRow, lkVal_none (find_none_of hk), h.out k hk]
    exact own_nil _ _ _ _
theorem Grp.look_ne (h : Grp w base m ks vs T) (k : ByteArray) : some m ≠ (lookRow ks vs k).ownBlock := raw_ne h.raw (h.look k)
/-- The row of a name has been gone on with, and laid back. -/
theorem Grp.put (h : Grp w base m ks vs T) (k x : ByteArray) {v1 : Value} (hown : w1.ownsRow base 9 1 v1 (T k ++ [x]).length (encS (T k ++ [x]))) (hg : w.grownBy w1 (lookRow ks vs k).ownBlock)
    (hat : v1.ownBlock = (lookRow ks vs k).ownBlock ∨ ∃ b, v1.ownBlock = some b ∧ w.heap.size ≤ b) {es : Array MapEntry} {cl : Nat} {ks' : List ByteArray} {vs' : List Value}
    (hraw : IsRaw (ChangeMaps.setBlock w1 m (.map es cl)) m (ks'.map Value.string) vs')
    (hc : (∃ i, ks.findIdx? (fun b => k == b) = some i ∧ ks[i]? = some k ∧ ks' = ks ∧ vs' = vs.set i v1) ∨ (k ∉ ks ∧ ks' = ks ++ [k] ∧ vs' = vs ++ [v1])) :
    Grp (ChangeMaps.setBlock w1 m (.map es cl)) base m ks' vs' (fun y => T y ++ if k = y then [x] else []) := by
  have hlen := h.raw.len
  have hmne : some m ≠ (lookRow ks vs k).ownBlock := h.look_ne k
  have hm1 : some m ≠ v1.ownBlock := by
    rcases hat with e | ⟨b, e, hle⟩
    · rw [e]; exact hmne
    · rw [e]; intro e2; injection e2 with e2; have := h.raw.lt; omega
  have hnew : (ChangeMaps.setBlock w1 m (.map es cl)).ownsRow base 9 1 v1 (T k ++ [x]).length (encS (T k ++ [x])) := own_move hown (fun b hb => set_other (fun e => hm1 (by rw [hb, e])))
  -- another name's row
  have hold : ∀ (j : Nat) y v, ks[j]? = some y → vs[j]? = some v → k ≠ y → (ChangeMaps.setBlock w1 m (.map es cl)).ownsRow base 9 1 v (T y).length (encS (T y)) ∧ ∀ b, v.ownBlock = some b → v1.ownBlock ≠ some b := by
    intro j y v hy hv hne
    have hne2 : ∀ b, v.ownBlock = some b → (lookRow ks vs k).ownBlock ≠ some b := by
      intro b hb hb2
      by_cases hk : k ∈ ks
      · obtain ⟨i, h1, h2⟩ := find_some_of hk
        have h3 := (List.getElem?_eq_some_iff.1 h2).1
        have hv2 : vs[i]? = some (vs.getD i default) := by rw [List.getD_eq_getElem?_getD, List.getElem?_eq_getElem (by omega)]; rfl
        rw [lookRow, lkVal_some h1] at hb2
        refine h.apart j i v _ b (fun e => ?_) hv hv2 hb hb2
        subst e
        rw [hy] at h2
        injection h2 with h2
        exact hne h2.symm
      · rw [lookRow, lkVal_none (find_none_of hk)] at hb2
        simp [Value.ownBlock] at hb2
    refine ⟨own_move (h.row j y v hy hv) (fun b hb => ?_), fun b hb hb2 => ?_⟩
    · have hbm : b ≠ m := fun e => raw_ne h.raw (h.row j y v hy hv) (by rw [hb, e])
      exact (set_other hbm).trans (hg.block b (h.lt hv hb) (fun e => hne2 b hb e.symm))
    · rcases hat with e | ⟨b', e, hle⟩
      · rw [e] at hb2; exact hne2 b hb hb2
      · rw [e] at hb2
        injection hb2 with hb2
        have := h.lt hv hb
        omega
  rcases hc with ⟨i, hi, hik, rfl, rfl⟩ | ⟨hk, rfl, rfl⟩
  · have hil := (List.getElem?_eq_some_iff.1 hik).1
    have hkey : ∀ (j : Nat) y, ks'[j]? = some y → j ≠ i → k ≠ y := by
      rintro j y hy hj rfl
      have hjl := (List.getElem?_eq_some_iff.1 hy).1
      have := (List.getElem_inj (h₀ := hjl) (h₁ := hil) h.nd).1 (by
        rw [← Option.some_inj, ← List.getElem?_eq_getElem, ← List.getElem?_eq_getElem, hy, hik])
      exact hj this
    refine ⟨hraw, h.nd, fun j y v hy hv => ?_, fun y hy => ?_, fun j j' v v' b hjj hv hv' hb hb' => ?_, h.hm⟩
    · by_cases hj : j = i
      · subst hj
        rw [hik] at hy
        injection hy with hy
        subst hy
        rw [List.getElem?_set_self (by omega)] at hv
        injection hv with hv
        subst hv
        simp only [if_true]
        exact hnew
      · rw [List.getElem?_set_ne (fun e => hj e.symm)] at hv
        have := hkey j y hy hj
        simp only [if_neg this, List.append_nil]
        exact (hold j y v hy hv this).1
    · have : k ≠ y := by rintro rfl; exact hy (List.mem_iff_getElem?.2 ⟨i, hik⟩)
      simp only [if_neg this, List.append_nil]
      exact h.out y hy
    · by_cases hj : j = i
      · subst hj
        rw [List.getElem?_set_self (by omega)] at hv
        rw [List.getElem?_set_ne hjj] at hv'
        injection hv with hv
        subst hv
        obtain ⟨y', hy'⟩ := h.key hv'
        exact (hold j' y' v' hy' hv' (hkey j' y' hy' (fun e => hjj e.symm))).2 b hb' hb
      · rw [List.getElem?_set_ne (fun e => hj e.symm)] at hv
        obtain ⟨y, hy⟩ := h.key hv
        by_cases hj' : j' = i
        · subst hj'
          rw [List.getElem?_set_self (by omega)] at hv'
          injection hv' with hv'
          subst hv'
          exact (hold j y v hy hv (hkey j y hy hj)).2 b hb hb'
        · rw [List.getElem?_set_ne (fun e => hj' e.symm)] at hv'
          exact h.apart j j' v v' b hjj hv hv' hb hb'
  · have hkey : ∀ (j : Nat) y, ks[j]? = some y → k ≠ y := fun j y hy e => hk (by rw [e]; exact List.mem_iff_getElem?.2 ⟨j, hy⟩)
    refine ⟨hraw, ?_, fun j y v hy hv => ?_, fun y hy => ?_, fun j j' v v' b hjj hv hv' hb hb' => ?_, h.hm⟩
    · rw [List.nodup_append]
      exact ⟨h.nd, by simp, fun a ha b hb e => by rw [List.mem_singleton] at hb; subst hb; subst e; exact hk ha⟩
    · by_cases hj : j < ks.length
      · rw [List.getElem?_append_left hj] at hy
        rw [List.getElem?_append_left (by omega)] at hv
        simp only [if_neg (hkey j y hy), List.append_nil]
        exact (hold j y v hy hv (hkey j y hy)).1
      · have hjl := (List.getElem?_eq_some_iff.1 hy).1
        rw [List.length_append, List.length_singleton] at hjl
        obtain rfl : j = ks.length := by omega
        rw [List.getElem?_concat_length] at hy
        rw [← hlen, List.getElem?_concat_length] at hv
        injection hy with hy
        injection hv with hv
        subst hy
        subst hv
        simp only [if_true]
        exact hnew
    · rw [List.mem_append, not_or, List.mem_singleton] at hy
      simp only [if_neg (fun e : k = y => hy.2 e.symm), List.append_nil]
      exact h.out y hy.1
    · have lim : ∀ (j : Nat) v, (vs ++ [v1])[j]? = some v → (j < vs.length ∧ vs[j]? = some v) ∨ (j = vs.length ∧ v = v1) := by
        intro j v hv
        by_cases hj : j < vs.length
        · rw [List.getElem?_append_left hj] at hv; exact .inl ⟨hj, hv⟩
        · have hjl := (List.getElem?_eq_some_iff.1 hv).1
          rw [List.length_append, List.length_singleton] at hjl
          obtain rfl : j = vs.length := by omega
          rw [List.getElem?_concat_length] at hv
          injection hv with hv
          exact .inr ⟨rfl, hv.symm⟩
      rcases lim j v hv with ⟨hj, hv2⟩ | ⟨hj, hv2⟩ <;> rcases lim j' v' hv' with ⟨hj', hv2'⟩ | ⟨hj', hv2'⟩
      · exact h.apart j j' v v' b hjj hv2 hv2' hb hb'
      · subst hv2'
        obtain ⟨y, hy⟩ := h.key hv2
        exact (hold j y v hy hv2 (hkey j y hy)).2 b hb hb'
      · subst hv2
        obtain ⟨y', hy'⟩ := h.key hv2'
        exact (hold j' y' v' hy' hv2' (hkey j' y' hy')).2 b hb' hb
      · exact hjj (hj.trans hj'.symm)
end Go.Proofs.YteefneemmdfncaaDoor.M
namespace Go.Proofs.YteefneemmdfncaaDoor.M
open Go.RowKit Go.Proofs.YteefneemmdfncaaDoorW.Raw Go.Proofs.YteefneemmdfncaaDoorW.PrintWords Go.Proofs.YteefneemmdfncaaDoor.F
set_option linter.unusedVariables false
theorem Grp.nil (w : World) (base m : Nat) (h : w.heap[m]? = some (.map #[] 0)) (hb : base ≤ m) : Grp w base m [] [] (tos []) :=
  ⟨⟨#[], 0, h, rfl, rfl⟩, List.nodup_nil, fun i k v hk => (by simp at hk), fun k _ => rfl, fun i j v v' b _ hv => (by simp at hv), hb⟩
theorem tos_len (ps : List S97) (k : ByteArray) : (tos ps k).length ≤ ps.length := by
  unfold tos
  rw [List.length_map]
  exact List.length_filter_le _ _
theorem run_lookRow {x : World} {m : Nat} {ks : List ByteArray} {vs : List Value} (h : IsRaw x m (ks.map Value.string) vs) (k : ByteArray) : (Instr.lookup 130 (.map (some m)) (.string k) false).run Tryd.prog x = .ok (lookRow ks vs k) x :=
  run_look1 keyS Tryd.underlying130 (zeroSs x) h k
theorem run_upd {x : World} {m : Nat} {ks : List ByteArray} {vs : List Value} (h : IsRaw x m (ks.map Value.string) vs) (k : ByteArray) (u : Value) :
    ∃ es cl ks' vs', (Instr.mapUpdate 130 (.map (some m)) (.string k) u).run Tryd.prog x = .ok () (ChangeMaps.setBlock x m (.map es cl)) ∧ IsRaw (ChangeMaps.setBlock x m (.map es cl)) m (ks'.map Value.string) vs' ∧
      ((∃ i, ks.findIdx? (fun b => k == b) = some i ∧ ks[i]? = some k ∧ ks' = ks ∧ vs' = vs.set i u) ∨ (k ∉ ks ∧ ks' = ks ++ [k] ∧ vs' = vs ++ [u])) := by
  by_cases hk : k ∈ ks
  · obtain ⟨i, h1, h2⟩ := find_some_of hk
    obtain ⟨es, cl, h3, h4⟩ := run_over keyS Tryd.underlying130 h k u h1 h2 (same_str k)
    exact ⟨es, cl, ks, _, h3, h4, .inl ⟨i, h1, h2, rfl, rfl⟩⟩
  · obtain ⟨es, cl, h3, h4⟩ := run_new keyS Tryd.underlying130 h k u (find_none_of hk)
    exact ⟨es, cl, _, _, h3, h4, .inr ⟨hk, rfl, rfl⟩⟩
attribute [local go_sem ↓] Go.wp_at_zero Go.wp_at_succ
set_option maxRecDepth 100000 in
set_option maxHeartbeats 1000000 in
theorem lines_calls (ps : List S97) (A : Option Addr) (c : Nat) (w : World) (hc : ps.length ≤ c) (hr : Kd.C k97 w A ps.length ps) (hn : ps.length ≤ 16777216) :
    Calls Tryd.prog 98 #[.slice A ps.length c] w fun e w' => ∃ m ks vs, e = .returned (.map (some m)) ∧ Grp w' w.heap.size m ks vs (tos ps) ∧ Below w.heap.size w w' := by
  have HR := Lib.hid hr
  have hmm := @run_makeMap Tryd.prog
  clear hr
  go_enter Tryd.func98, Tryd.ntmps98
  go_wp2
  go_loopw [9] (fun i wr => ∃ (k : Nat) (ks : List ByteArray) (vs : List Value), k ≤ ps.length ∧ i = .int .i64 (k : Nat) ∧ Grp wr w.heap.size w.heap.size ks vs (tos (ps.take k)) ∧ Below w.heap.size w wr) (fun i _ => ps.length - (intOf i).toNat)
  case atStart => exact ⟨0, [], [], Nat.zero_le _, rfl, Grp.nil _ _ _ (heap_new _ _) (Nat.le_refl _), (Below.refl _ _).alloc (Nat.le_refl _) _⟩
  case round =>
    obtain ⟨k, ks, vs, hk, rfl, hG, hB⟩ := hrel
    by_cases hlt : k < ps.length
    · obtain ⟨ad, rfl, q0, q1⟩ := at_T97 HR.out (k : Int) (by omega) (by omega)
      obtain ⟨p, hp⟩ : ∃ p, p = rd_T97 ps (k : Int) := ⟨_, rfl⟩
      rw [← hp, Int.toNat_natCast] at q0 q1
      have HG := Lib.hid hG
      have HB := Lib.hid hB
      have HP := Lib.hid hp
      have e0 := pw_cell_below hB q0
      have e1 := pw_cell_below hB q1
      clear q0 q1 hG hB hp
      go_wp2_with fail
      obtain ⟨B0, hB0⟩ : ∃ B0, B0 = wr.heap.size := ⟨_, rfl⟩
      obtain ⟨W0, hW0⟩ : ∃ W0, W0 = wr.alloc (Obj.cells #[Value.string p.f0, Value.string p.f1] 97) := ⟨_, rfl⟩
      obtain ⟨m, hm⟩ : ∃ m, m = w.heap.size := ⟨_, rfl⟩
      obtain ⟨v, hv⟩ : ∃ v, v = lookRow ks vs p.f0 := ⟨_, rfl⟩
      obtain ⟨n, hnn⟩ : ∃ n, n = (tos (List.take k ps) p.f0).length := ⟨_, rfl⟩
      have hG0 : Grp W0 m m ks vs (tos (List.take k ps)) := by rw [hW0, hm]; exact HG.out.below ((Below.refl _ _).alloc (Nat.le_refl _) _)
      have hBW : Below m w W0 := by rw [hW0, hm]; exact HB.out.alloc HB.out.size _
      have hblk : W0.heap[B0]? = some (.cells #[.string p.f0, .string p.f1] 97 (0, 0)) := by rw [hW0, hB0]; exact heap_new _ _
      have hsz : W0.heap.size = B0 + 1 := by rw [hW0, hB0]; exact size_new _ _
      have hown := hG0.look p.f0
      rw [← hv, ← hnn] at hown
      have hvB : v.ownBlock ≠ some B0 := fun e => own_ne hown hblk (by decide) e.symm
      have hmv : some m ≠ v.ownBlock := raw_ne hG0.raw hown
      have hn1 : (n + 1) * 16 ≤ 140737488355328 := by
        have h1 := tos_len (List.take k ps) p.f0
        have h2 : (List.take k ps).length ≤ ps.length := (by rw [List.length_take]; omega)
        omega
      have hn2 : n + 1 ≤ maxLen := by unfold maxLen; omega
      rw [← hW0, ← hB0, ← hm]
      have c0 := (blk_cell hblk 0).trans (Eq.refl (some (Value.string p.f0)))
      have c1 := (blk_cell hblk 1).trans (Eq.refl (some (Value.string p.f1)))
      have hL := run_lookRow hG0.raw p.f0
      rw [← hv] at hL
      have HG0 := Lib.hid hG0
      have HBK := Lib.hid hblk
      have HOW := Lib.hid hown
      have HSZ := Lib.hid hsz
      have HV := Lib.hid hv
      have HN := Lib.hid hnn
      have HM := Lib.hid hm
      have HBW := Lib.hid hBW
      have HMV := Lib.hid hmv
      have hmW : m < W0.heap.size := hG0.raw.lt
      have hLall := fun x (hx : IsRaw x m (ks.map Value.string) vs) => run_lookRow hx p.f0
      rw [← hv] at hLall
      have HLA := Lib.hid hLall
      have HVB := Lib.hid hvB
      obtain ⟨i0, hi0, hz0, hz1, hz2⟩ := info_parts infoS
      clear hG0 hblk hown hsz hv hnn hm hBW hW0 hB0 hmv hvB hLall e0 e1 hc
      have hL0 := HLA.out W0.drew (HG0.out.raw.move rfl)
      have hL1 := HLA.out (W0.alloc (Obj.cells #[Value.string p.f1] 9)).drew (HG0.out.raw.move (heap_old _ _ hmW))
      have hB0l : B0 < W0.heap.size := by have := HSZ.out; omega
      go_region_held3 (fun w' => w'.cell? ⟨B0, 0, none⟩ = some (.string p.f0) ∧ w'.cell? ⟨B0, 1, none⟩ = some (.string p.f1))
        (first
          | exact ⟨d0', d1'⟩
          | exact ⟨c0', c1'⟩
          | (go_split_ands
             refine ⟨by go_keep, by go_keep⟩))
        ((refine step_append_lies _ (by rfl) _ _ _ (by rfl) m 9 i0 _ 1 16 Tryd.underlying22 hi0 hz0 hz1 hz2 rfl (by omega) v n (encS (tos (List.take k ps) p.f0)) (by rfl) ((HOW.out.alloc _).drew)
            ⟨W0.heap.size, 0, none⟩ 1 1 [.string p.f1] (by rfl) (by rfl) (World.news_of_block (cs := #[.string p.f1]) (t := 9) (fr := (0, 0)) (heap_alloc_new _ _)) (by simp [Value.oneCell'])
            (by omega) hn2 hn1 (by simp; omega) (W0.heap.size + 1) (by simp) ?_; intro gg cap w1 hown1 hgrow hat hlt; have HRB := Lib.hid ((hgrow.block B0 (by simp; omega) (fun e => HVB.out e.symm)).trans ((heap_old _ _ hB0l).trans HBK.out)); have c0' := (blk_cell HRB.out 0).trans (Eq.refl (some (Value.string p.f0))); have c1' := (blk_cell HRB.out 1).trans (Eq.refl (some (Value.string p.f1))); have HR1 := Lib.hid (HG0.out.raw.move ((hgrow.block m (by simp; omega) HMV.out).trans (heap_old _ _ hmW)));
            obtain ⟨es, cl, ks', vs', hmu, hraw2, hcase⟩ := run_upd HR1.out p.f0 (.slice (some ⟨gg, 0, none⟩) (n + 1) cap); have HRC := Lib.hid ((set_other (o := .map es cl) (fun e => raw_ne_blk HR1.out HRB.out e.symm)).trans HRB.out); have d0' := (blk_cell HRC.out 0).trans (Eq.refl (some (Value.string p.f0))); have d1' := (blk_cell HRC.out 1).trans (Eq.refl (some (Value.string p.f1))); have HR2 := Lib.hid hraw2; have HCA := Lib.hid hcase; have HO1 := Lib.hid hown1; have HGR := Lib.hid hgrow; have HAT := Lib.hid hat; clear hraw2 hcase hown1 hgrow hat hlt))
      all_goals
        obtain rfl := HM.out
        go_wp2
        go_roundw
        case rel =>
          have hgr : W0.grownBy w1 v.ownBlock := (grown_of_below (((Below.refl _ W0).alloc (Nat.le_refl _) _).drew) v.ownBlock).trans HGR.out
          have htk : List.take (k + 1) ps = List.take k ps ++ [p] := by rw [List.take_succ_eq_append_getElem hlt, HP.out]; simp [rd_T97, List.getD_eq_getElem?_getD, hlt]
          have hfin := HG0.out.put p.f0 p.f1 (v1 := .slice (some ⟨gg, 0, none⟩) (n + 1) cap) (by rw [List.length_append, ← HN.out]; simpa [encS, encs] using HO1.out) (by rw [← HV.out]; exact hgr) (by rw [← HV.out]; exact HAT.out.imp (fun e => e.symm) (fun e => ⟨gg, rfl, by omega⟩)) HR2.out HCA.out
          refine ⟨k + 1, ks', vs', hlt, by go_num, ?_, ?_⟩
          · have hT : tos (List.take (k + 1) ps) = fun y => tos (List.take k ps) y ++ if p.f0 = y then [p.f1] else [] := by funext y; rw [htk, tos_snoc]
            rw [hT]
            exact hfin
          · exact below_set_map (HBW.out.grown hgr HBW.out.size (fun j hj => own_base HOW.out j hj)) (Nat.le_refl _)
        case measure => simp [intOf]; omega
    · obtain rfl : k = ps.length := by omega
      rw [List.take_length] at hG
      go_wp2
      go_ret
      exact ⟨_, _, _, rfl, hG, hB⟩
end Go.Proofs.YteefneemmdfncaaDoor.M
namespace Go.Proofs.YteefneemmdfncaaDoor.M
open Go.RowKit Go.Proofs.YteefneemmdfncaaDoorW.Raw Go.Proofs.YteefneemmdfncaaDoorW.PrintWords Go.Proofs.YteefneemmdfncaaDoor.F
set_option linter.unusedVariables false
abbrev unitV : Value := .agg #[]
theorem zeroU (w : World) : (zeroValue 127).run Tryd.prog w = .ok unitV w := by kernel_rfl
/-- The set and the list of what has come. -/
structure Clo (w : World) (B bs bl m : Nat) (u : Value) (xs : List ByteArray) : Prop where
  set : w.heap[bs]? = some (.cells #[.map (some m)] 72 (0, 0))
  lst : w.heap[bl]? = some (.cells #[u] 22 (0, 0))
  raw : IsRaw w m (xs.map Value.string) (xs.map fun _ => unitV)
  row : w.ownsRow B 9 1 u xs.length (encS xs)
  nd : xs.Nodup
  hs : B ≤ bs
  hl : B ≤ bl
  hm : B ≤ m
def add1 (xs : List ByteArray) (x : ByteArray) : List ByteArray := if xs.any (fun y => x == y) then xs else xs ++ [x]
def addAll (xs ts : List ByteArray) : List ByteArray := ts.foldl add1 xs
theorem any_iff (xs : List ByteArray) (x : ByteArray) : xs.any (fun y => x == y) = true ↔ x ∈ xs := by
  rw [List.any_eq_true]
  constructor
  · rintro ⟨y, hy, h⟩
    rw [(bb x y).1 h]; exact hy
  · intro h; exact ⟨x, h, (bb x x).2 rfl⟩
theorem add1_mem {xs : List ByteArray} {x : ByteArray} (h : x ∈ xs) : add1 xs x = xs := if_pos ((any_iff xs x).2 h)
theorem add1_new {xs : List ByteArray} {x : ByteArray} (h : x ∉ xs) : add1 xs x = xs ++ [x] := if_neg (fun e => h ((any_iff xs x).1 e))
theorem addAll_snoc (xs ts : List ByteArray) (x : ByteArray) : addAll xs (ts ++ [x]) = add1 (addAll xs ts) x := by simp [addAll]
theorem add1_len (xs : List ByteArray) (x : ByteArray) : (add1 xs x).length ≤ xs.length + 1 := by
  unfold add1
  split <;> simp
theorem addAll_len (ts : List ByteArray) : ∀ xs : List ByteArray, (addAll xs ts).length ≤ xs.length + ts.length := by
  induction ts with
  | nil => intro xs; exact Nat.le_refl _
  | cons t ts ih =>
    intro xs
    have h1 := ih (add1 xs t)
    have h2 := add1_len xs t
    show (addAll (add1 xs t) ts).length ≤ _
    simp only [List.length_cons]
    omega
theorem run_seen {x : World} {m : Nat} {xs : List ByteArray} (h : IsRaw x m (xs.map Value.string) (xs.map fun _ => unitV)) (k : ByteArray) (b : Bool) (hb : b = true ↔ k ∈ xs) :
    (Instr.lookup 72 (.map (some m)) (.string k) true).run Tryd.prog x = .ok (.tuple #[unitV, .bool b]) x := by
  have := run_look keyS Tryd.underlying72 (zeroU x) h k
  by_cases hk : k ∈ xs
  · obtain ⟨i, h1, h2⟩ := find_some_of hk
    have hl := (List.getElem?_eq_some_iff.1 h2).1
    rw [lkVal_some h1, lkOk_some h1] at this
    rw [this, hb.2 hk]
    simp [hl]
  · rw [lkVal_none (find_none_of hk), lkOk_none (find_none_of hk)] at this
    rw [this]
    cases b with
    | false => rfl
    | true => exact absurd (hb.1 rfl) hk
theorem str_at {w : World} {A : Option Addr} {n : Nat} {ts : List ByteArray} (h : Kd.C Kd.string w A n ts) (k : Nat) (hk : k < n) : ∃ ad, A = some ad ∧ w.cell? (ad.add k) = some (.string (ts.getD k ByteArray.empty)) := by
  obtain ⟨ad, c, e, _, hK, hc0⟩ := Kd.C_get h ByteArray.empty (k : Int) (by omega) (by omega)
  have hK' : c = [Value.string (ts.getD k ByteArray.empty)] := hK
  subst hK'
  refine ⟨ad, e, ?_⟩
  have : w.cell? (ad.add ((k : Int).toNat * 1 + 0)) = some (.string (ts.getD k ByteArray.empty)) := hc0 0 _ rfl
  simpa using this
variable {w w1 w2 : World} {B bs bl m : Nat} {u : Value} {xs : List ByteArray}
theorem Clo.move (h : Clo w B bs bl m u xs) (hm : ∀ i, i < w.heap.size → B ≤ i → w1.heap[i]? = w.heap[i]?) : Clo w1 B bs bl m u xs :=
  ⟨(hm bs (lt_of_get h.set) h.hs).trans h.set, (hm bl (lt_of_get h.lst) h.hl).trans h.lst, h.raw.move (hm m h.raw.lt h.hm), own_move h.row (fun k hk => hm k (own_lt h.row k hk) (own_base h.row k hk)), h.nd, h.hs, h.hl, h.hm⟩
theorem Clo.below (h : Clo w B bs bl m u xs) (hb : Below w.heap.size w w1) : Clo w1 B bs bl m u xs := h.move (fun i hi _ => hb.block i hi)
theorem Clo.step {A : Option Addr} {c : Nat} {ys : List ByteArray} {x : ByteArray} {es : Array MapEntry} {cl : Nat} {v1 : Value} {o : Obj} {w3 w4 : World} (h : Clo w B bs bl m (.slice A ys.length c) ys) (hx : x ∉ ys) (hB : B ≤ w.heap.size)
    (hraw : IsRaw (ChangeMaps.setBlock (w.alloc o) m (.map es cl)) m ((ys ++ [x]).map Value.string) (ys.map (fun _ => unitV) ++ [unitV]))
    (hown : w3.ownsRow B 9 1 v1 (ys ++ [x]).length (encS (ys ++ [x]))) (hb : Below B w w3) (hg : (ChangeMaps.setBlock (w.alloc o) m (.map es cl)).grownBy w3 (Value.slice A ys.length c).ownBlock)
    (hat : v1.ownBlock = (Value.slice A ys.length c).ownBlock ∨ ∃ b, v1.ownBlock = some b ∧ (ChangeMaps.setBlock (w.alloc o) m (.map es cl)).heap.size ≤ b)
    (hw : w4.heap[bl]? = some (.cells #[v1] 22 (0, 0))) (hs : ∀ i, i ≠ bl → w4.heap[i]? = w3.heap[i]?) (hb4 : ∀ B, B ≤ bl → Below B w3 w4) : Clo w4 B bs bl m v1 (ys ++ [x]) ∧ Below B w w4 := by
  have hsz : (ChangeMaps.setBlock (w.alloc o) m (.map es cl)).heap.size = w.heap.size + 1 := by rw [set_size, size_new]
  have hmne : m ≠ bs := raw_ne_blk h.raw h.set
  have hmnl : m ≠ bl := raw_ne_blk h.raw h.lst
  have hsl : bs ≠ bl := blk_ne h.set h.lst (by decide)
  have hset3 : w3.heap[bs]? = some (.cells #[.map (some m)] 72 (0, 0)) := (hg.block bs (by rw [hsz]; have := lt_of_get h.set; omega) (own_ne h.row h.set (by decide))).trans ((set_other hmne.symm).trans ((heap_old _ _ (lt_of_get h.set)).trans h.set))
  have hlst3 : w3.heap[bl]? = some (.cells #[.slice A ys.length c] 22 (0, 0)) := (hg.block bl (by rw [hsz]; have := lt_of_get h.lst; omega) (own_ne h.row h.lst (by decide))).trans ((set_other hmnl.symm).trans ((heap_old _ _ (lt_of_get h.lst)).trans h.lst))
  have hraw3 : IsRaw w3 m ((ys ++ [x]).map Value.string) (ys.map (fun _ => unitV) ++ [unitV]) := hraw.move (hg.block m (by rw [hsz]; have := h.raw.lt; omega) (raw_ne h.raw h.row))
  refine ⟨⟨(hs bs hsl).trans hset3, hw, ?_, own_move hown (fun k hk => hs k (fun e => own_ne hown hlst3 (by decide) (by rw [hk, e]))), ?_, h.hs, h.hl, h.hm⟩, hb.trans (hb4 _ h.hl)⟩
  · have := hraw3.move (w' := w4) (hs m hmnl)
    rw [show (ys ++ [x]).map (fun _ => unitV) = ys.map (fun _ => unitV) ++ [unitV] by simp]
    exact this
  · rw [List.nodup_append]
    exact ⟨h.nd, by simp, fun a ha b hb e => by rw [List.mem_singleton] at hb; subst hb; subst e; exact hx ha⟩
theorem size22 : (Tryd.prog.info? 22).map (·.size) = some 1 := by kernel_rfl
set_option maxRecDepth 100000 in
set_option maxHeartbeats 1000000 in
theorem put_calls (ts : List ByteArray) (A : Option Addr) (c : Nat) (w : World) (hc : ts.length ≤ c) (h : Clo w B bs bl m u xs) (hr : ∀ W, Below B w W → Kd.C Kd.string W A ts.length ts)
    (hn : ts.length ≤ 16777216) (hx : xs.length ≤ 16777216) (hB : B ≤ w.heap.size) :
    Calls Tryd.prog 112 #[.slice A ts.length c, .pointer (some ⟨bs, 0, none⟩), .pointer (some ⟨bl, 0, none⟩)] w fun e w' => e = .returned (.tuple #[]) ∧ ∃ u', Clo w' B bs bl m u' (addAll xs ts) ∧ Below B w w' := by
  have HR := Lib.hid hr
  have HC := Lib.hid h
  have HBw := Lib.hid hB
  clear hr h hB
  go_enter Tryd.func112, Tryd.ntmps112
  go_wp2
  go_loopw [10] (fun i wr => ∃ (k : Nat) (u' : Value), k ≤ ts.length ∧ i = .int .i64 (k : Nat) ∧ Clo wr B bs bl m u' (addAll xs (ts.take k)) ∧ Below B w wr) (fun i _ => ts.length - (intOf i).toNat)
  case atStart => exact ⟨0, u, Nat.zero_le _, rfl, HC.out, Below.refl _ _⟩
  case round =>
    obtain ⟨k, u', hk, rfl, hG, hB⟩ := hrel
    by_cases hlt : k < ts.length
    · obtain ⟨ad, rfl, q0⟩ := str_at (HR.out wr hB) k hlt
      obtain ⟨x, hxk⟩ : ∃ x, x = ts.getD k ByteArray.empty := ⟨_, rfl⟩
      rw [← hxk] at q0
      obtain ⟨ys, hys⟩ : ∃ ys, ys = addAll xs (ts.take k) := ⟨_, rfl⟩
      rw [← hys] at hG
      have c1 := (blk_cell hG.set 0).trans (Eq.refl (some (Value.map (some m))))
      have HG := Lib.hid hG
      have HB := Lib.hid hB
      have HX := Lib.hid hxk
      have HY := Lib.hid hys
      have htk : List.take (k + 1) ts = List.take k ts ++ [x] := by rw [List.take_succ_eq_append_getElem hlt, hxk]; simp [List.getD_eq_getElem?_getD, hlt]
      have HT := Lib.hid htk
      have hyl : ys.length ≤ xs.length + k := by
        rw [hys]
        refine Nat.le_trans (addAll_len _ _) ?_
        rw [List.length_take]; omega
      clear htk
      by_cases hin : x ∈ ys
      · have hL := run_seen hG.raw x true (by simp [hin])
        clear hG hB hxk hys hc
        go_wp2
        go_roundw
        case rel => exact ⟨k + 1, u', hlt, by go_num, by rw [HT.out, addAll_snoc, ← HY.out, add1_mem hin]; exact HG.out.below ((Below.refl _ _).alloc (Nat.le_refl _) _), HB.out.alloc (Nat.le_trans HBw.out HB.out.size) _⟩
        case measure => simp [intOf]; omega
      · have hL := run_seen hG.raw x false (by simp [hin])
        obtain ⟨A', c', rfl⟩ := own_slice hG.row
        have c1' := (blk_cell ((heap_old wr (Obj.cells #[] 127) (lt_of_get hG.set)).trans hG.set) 0).trans (Eq.refl (some (Value.map (some m))))
        have HIN := Lib.hid hin
        have HYL := Lib.hid hyl
        clear hG hB hxk hys hc hin hyl
        go_wp2_with (first | (at_mapUpdate; go_must (refine wpList_new rfl _ _ _ rfl keyS Tryd.underlying72 rfl (HG.out.raw.below ((Below.refl _ _).alloc (Nat.le_refl _) (Obj.cells #[] 127))) x rfl unitV rfl (find_none_of HIN.out) ?_); intro es cl hraw; have hb2 := (set_other (w := wr.alloc (Obj.cells #[] 127)) (o := .map es cl) (fun e => raw_ne_blk HG.out.raw HG.out.lst e.symm)).trans ((heap_old wr (Obj.cells #[] 127) (lt_of_get HG.out.lst)).trans HG.out.lst); have c2 := (blk_cell hb2 0).trans (Eq.refl (some (Value.slice A' ys.length c'))); have HRW := Lib.hid hraw; have HB2 := Lib.hid hb2; clear hraw hb2) | (at_builtin; go_must (refine print_append_of Value.string (w0 := wr) B rfl _ _ 22 9 (.string ⟨#[]⟩) 16 rfl Tryd.underlying22 infoS rfl (by decide) (.slice A' ys.length c') ys x rfl rfl rfl ?hrow ?hbel ?hle (by have := HYL.out; omega) ?_); (case hrow => exact own_move (pw_own_below HG.out.row ((Below.refl _ _).alloc (Nat.le_refl _) (Obj.cells #[] 127))) (fun k hk => set_other (fun e => raw_ne HG.out.raw HG.out.row (by rw [hk, e])))); (case hbel => exact below_set_map ((Below.refl _ _).alloc (Nat.le_trans HBw.out HB.out.size) _) HG.out.hm); (case hle => rw [set_size, size_new]; have := HBw.out; have := HB.out.size; omega); intro v1 w3 hown hb3 hg3 hat; obtain ⟨A1, c1_, hv⟩ := own_slice hown; rw [show (ys ++ [x]).length = ys.length + 1 by simp] at hv; subst hv; have HO := Lib.hid hown; have HB3 := Lib.hid hb3; have HG3 := Lib.hid hg3; have HAT := Lib.hid hat; have hb2' := (hg3.block bl (by rw [set_size, size_new]; have := lt_of_get HG.out.lst; omega) (own_ne HG.out.row HG.out.lst (by decide))).trans HB2.out; have HL3 := Lib.hid hb2'; clear hown hb3 hg3 hat hb2') | ((with_reducible refine gate_ (.store 22 (.tmp 2) (.tmp 28)) rfl ?_); refine bstore (t := 22) (p := 2) (v := .tmp 28) rfl rfl rfl bl _ #[.slice A1 (ys.length + 1) c1_] (.slice A1 (ys.length + 1) c1_) rfl rfl rfl HL3.out size22 rfl (by simp [Value.oneCell']) ?_; intro w4 hb4 hs4 hz4 hB4; have HB4 := Lib.hid hb4; have HS4 := Lib.hid hs4; have HBB := Lib.hid hB4; clear hb4 hs4 hz4 hB4))
        go_roundw
        case rel =>
          obtain ⟨h1, h2⟩ := HG.out.step HIN.out (Nat.le_trans HBw.out HB.out.size) HRW.out HO.out (HB3.out) HG3.out HAT.out HB4.out HS4.out HBB.out
          exact ⟨k + 1, _, hlt, by go_num, by rw [HT.out, addAll_snoc, ← HY.out, add1_new HIN.out]; exact h1, HB.out.trans h2⟩
        case measure => simp [intOf]; omega
    · obtain rfl : k = ts.length := by omega
      rw [List.take_length] at hG
      go_wp2
      go_end0
      exact ⟨rfl, _, hG, hB⟩
end Go.Proofs.YteefneemmdfncaaDoor.M
namespace Go.Proofs.YteefneemmdfncaaDoor.M
open Go.RowKit Go.Proofs.YteefneemmdfncaaDoorW.Raw Go.Proofs.YteefneemmdfncaaDoorW.PrintWords Go.Proofs.YteefneemmdfncaaDoor.F
set_option linter.unusedVariables false
/-- The list behind k rounds. -/
def rounds (N : ByteArray → List ByteArray) (L0 : List ByteArray) : Nat → List ByteArray
  | 0 => L0
  | k + 1 => match (rounds N L0 k)[k]? with
    | some x => addAll (rounds N L0 k) (N x)
    | none => rounds N L0 k
theorem addAll_pre (ts : List ByteArray) : ∀ xs : List ByteArray, ∃ zs, addAll xs ts = xs ++ zs := by
  induction ts with
  | nil => intro xs; exact ⟨[], (List.append_nil _).symm⟩
  | cons t ts ih =>
    intro xs
    obtain ⟨zs, h⟩ := ih (add1 xs t)
    by_cases ht : t ∈ xs
    · rw [add1_mem ht] at h
      exact ⟨zs, by show addAll (add1 xs t) ts = _; rw [add1_mem ht]; exact h⟩
    · rw [add1_new ht] at h
      exact ⟨t :: zs, by show addAll (add1 xs t) ts = _; rw [add1_new ht, h, List.append_assoc]; rfl⟩
theorem addAll_mem (ts : List ByteArray) : ∀ (xs : List ByteArray) (y : ByteArray), y ∈ addAll xs ts ↔ y ∈ xs ∨ y ∈ ts := by
  induction ts with
  | nil => intro xs y; simp [addAll]
  | cons t ts ih =>
    intro xs y
    show y ∈ addAll (add1 xs t) ts ↔ _
    rw [ih]
    by_cases ht : t ∈ xs
    · rw [add1_mem ht, List.mem_cons]
      constructor
      · rintro (h | h)
        · exact .inl h
        · exact .inr (.inr h)
      · rintro (h | rfl | h)
        · exact .inl h
        · exact .inl ht
        · exact .inr h
    · rw [add1_new ht, List.mem_append, List.mem_singleton, List.mem_cons, or_assoc]
theorem addAll_nodup (ts : List ByteArray) : ∀ (xs : List ByteArray), xs.Nodup → (addAll xs ts).Nodup := by
  induction ts with
  | nil => intro xs h; exact h
  | cons t ts ih =>
    intro xs h
    refine ih (add1 xs t) ?_
    by_cases ht : t ∈ xs
    · rw [add1_mem ht]; exact h
    · rw [add1_new ht, List.nodup_append]
      exact ⟨h, by simp, fun a ha b hb e => by rw [List.mem_singleton] at hb; subst hb; subst e; exact ht ha⟩
theorem nodup_le {xs U : List ByteArray} (h : xs.Nodup) (hU : ∀ x ∈ xs, x ∈ U) : xs.length ≤ U.length := by
  induction xs generalizing U with
  | nil => exact Nat.zero_le _
  | cons x xs ih =>
    rw [List.nodup_cons] at h
    obtain ⟨a, b, rfl⟩ := List.append_of_mem (hU x List.mem_cons_self)
    have := ih (U := a ++ b) h.2 (fun y hy => by
      have h1 := hU y (List.mem_cons_of_mem _ hy)
      rw [List.mem_append, List.mem_cons] at h1
      rw [List.mem_append]
      rcases h1 with h1 | rfl | h1
      · exact .inl h1
      · exact absurd hy h.1
      · exact .inr h1)
    simp only [List.length_append, List.length_cons] at this ⊢
    omega
theorem rounds_in {N : ByteArray → List ByteArray} {L0 U : List ByteArray} (h0 : ∀ x ∈ L0, x ∈ U) (hN : ∀ x y, y ∈ N x → y ∈ U) (k : Nat) : ∀ x ∈ rounds N L0 k, x ∈ U := by
  induction k with
  | zero => exact h0
  | succ k ih =>
    intro x hx
    unfold rounds at hx
    split at hx
    · rw [addAll_mem] at hx
      rcases hx with hx | hx
      · exact ih x hx
      · exact hN _ x hx
    · exact ih x hx
theorem row_at {w : World} {base n c : Nat} {A : Option Addr} {xs : List ByteArray} (h : w.ownsRow base 9 1 (.slice A n c) n (encS xs)) (i : Nat) (hi : i < n) : ∃ b, A = some ⟨b, 0, none⟩ ∧ w.cell? ⟨b, i, none⟩ = some (.string (xs.getD i ByteArray.empty)) := by
  rcases h.2 with ⟨he, h1⟩ | ⟨g', cap', cur, he, hb, hh, _⟩
  · injection he with _ h2
    omega
  · injection he with h1 h2 h3
    subst h1
    refine ⟨g', rfl, ?_⟩
    have := (own_at_of (d := ByteArray.empty) h (i : Int) (by omega) (by omega)).1
    simpa [rdOf] using this
set_option maxRecDepth 100000 in
set_option maxHeartbeats 2000000 in
theorem close_calls (g : Nat) (caps : Array Value) (N : ByteArray → List ByteArray) (U : List ByteArray) (J : List ByteArray → World → Prop) (fs : List ByteArray) (A : Option Addr) (c : Nat) (w : World)
    (hc : fs.length ≤ c) (hfs : ∀ W, Below w.heap.size w W → Kd.C Kd.string W A fs.length fs) (hU : U.length ≤ 16777216) (hfU : ∀ x ∈ fs, x ∈ U) (hNU : ∀ x y, y ∈ N x → y ∈ U) (hfl : fs.length ≤ 16777216) (hNl : ∀ x, (N x).length ≤ 16777216)
    (hJ : ∀ pre W W', J pre W → Below w.heap.size W W' → J pre W') (h0 : J [] w)
    (eg : ∀ args w, (callFunc g args).run Tryd.prog w = .ok (.enter g args) w)
    (hnext : ∀ pre x W, J pre W → w.heap.size ≤ W.heap.size → Calls Tryd.prog g (#[.string x] ++ caps) W fun e W' => ∃ A n, e = .returned (.slice A (N x).length n) ∧ (N x).length ≤ n ∧ J (pre ++ [x]) W' ∧ Kept W W' (fun i => i < w.heap.size) ∧ ∀ W2, Below w.heap.size W' W2 → Kd.C Kd.string W2 A (N x).length (N x)) :
    Calls Tryd.prog 99 #[.slice A fs.length c, .func (.func g) #[] caps] w fun e w' => ∃ (u : Value) (L : List ByteArray), e = .returned u ∧ w'.ownsRow w.heap.size 9 1 u L.length (encS L) ∧ L = rounds N (addAll [] fs) L.length ∧ L.Nodup ∧ J L w' ∧ w.heap.size ≤ w'.heap.size := by
  have HFS := Lib.hid hfs
  have HNX := Lib.hid hnext
  have HJ := Lib.hid hJ
  have H0 := Lib.hid h0
  have HNU := Lib.hid hNU
  have HFU := Lib.hid hfU
  have HNL := Lib.hid hNl
  have hmm := @run_makeMap Tryd.prog
  have hne : ∀ W, (binOp BinOp.neq 137 (Value.func (Fn.func g) #[] caps) Value.nilFunc).run Tryd.prog W = Result.ok (Value.bool true) W := fun W => by kernel_rfl
  clear hfs hnext hJ h0 hNU hfU hNl
  go_enter Tryd.func99, Tryd.ntmps99
  go_wp2_with fail
  have hm3 : (((w.alloc (Obj.map #[] 0)).alloc (Obj.cells #[Value.map (some w.heap.size)] 72)).alloc (Obj.cells #[Value.slice none 0 0] 22)).heap[w.heap.size]? = some (.map #[] 0) := (heap_old _ _ (by simp; omega)).trans ((heap_old _ _ (by simp)).trans (heap_new _ _))
  have hs3 : (((w.alloc (Obj.map #[] 0)).alloc (Obj.cells #[Value.map (some w.heap.size)] 72)).alloc (Obj.cells #[Value.slice none 0 0] 22)).heap[w.heap.size + 1]? = some (.cells #[Value.map (some w.heap.size)] 72 (0, 0)) := (heap_old _ _ (by simp)).trans (by have := heap_new (w.alloc (Obj.map #[] 0)) (Obj.cells #[Value.map (some w.heap.size)] 72); rwa [size_new] at this)
  have hl3 : (((w.alloc (Obj.map #[] 0)).alloc (Obj.cells #[Value.map (some w.heap.size)] 72)).alloc (Obj.cells #[Value.slice none 0 0] 22)).heap[w.heap.size + 1 + 1]? = some (.cells #[Value.slice none 0 0] 22 (0, 0)) := by
    have := heap_new ((w.alloc (Obj.map #[] 0)).alloc (Obj.cells #[Value.map (some w.heap.size)] 72)) (Obj.cells #[Value.slice none 0 0] 22)
    rwa [size_new, size_new] at this
  have hb3 : Below w.heap.size w (((w.alloc (Obj.map #[] 0)).alloc (Obj.cells #[Value.map (some w.heap.size)] 72)).alloc (Obj.cells #[Value.slice none 0 0] 22)) := (((Below.refl _ w).alloc (Nat.le_refl _) _).alloc (by simp) _).alloc (by simp; omega) _
  obtain ⟨W3, hW3⟩ : ∃ W3, W3 = ((w.alloc (Obj.map #[] 0)).alloc (Obj.cells #[Value.map (some w.heap.size)] 72)).alloc (Obj.cells #[Value.slice none 0 0] 22) := ⟨_, rfl⟩
  rw [← hW3] at hm3 hs3 hl3 hb3 ⊢
  clear hW3
  have hC0 : Clo W3 w.heap.size (w.heap.size + 1) (w.heap.size + 1 + 1) w.heap.size (.slice none 0 0) [] :=
    ⟨hs3, hl3, ⟨#[], 0, hm3, rfl, rfl⟩, own_nil _ _ _ _, List.nodup_nil, by omega, by omega, Nat.le_refl _⟩
  have HB3 := Lib.hid hb3
  have HC0 := Lib.hid hC0
  clear hm3 hs3 hl3 hb3 hC0
  refine (put_calls fs A c W3 hc HC0.out (fun W hW => HFS.out W (HB3.out.trans hW)) hfl (Nat.zero_le _) HB3.out.size).mono ?_
  rintro e w1 ⟨rfl, u1, hC1, hB1⟩
  have HC1 := Lib.hid hC1
  have HB1 := Lib.hid (HB3.out.trans hB1)
  clear hC1 hB1
  go_wp2_with fail
  go_loopw [8] (fun i wr => ∃ (k : Nat) (u : Value), i = .int .i64 (k : Nat) ∧ Clo wr w.heap.size (w.heap.size + 1) (w.heap.size + 1 + 1) w.heap.size u (rounds N (addAll [] fs) k) ∧ k ≤ (rounds N (addAll [] fs) k).length ∧ J ((rounds N (addAll [] fs) k).take k) wr ∧ w.heap.size ≤ wr.heap.size) (fun i _ => U.length - (intOf i).toNat)
  case atStart => exact ⟨0, u1, rfl, HC1.out, Nat.zero_le _, HJ.out _ _ _ H0.out HB1.out, HB1.out.size⟩
  case round =>
    obtain ⟨k, u, rfl, hC, hk, hJk, hsz⟩ := hrel
    obtain ⟨ys, hys⟩ : ∃ ys, ys = rounds N (addAll [] fs) k := ⟨_, rfl⟩
    rw [← hys] at hC hk hJk
    have hin : ∀ x ∈ ys, x ∈ U := by rw [hys]; exact rounds_in (fun x hx => by rw [addAll_mem] at hx; rcases hx with hx | hx; (· simp at hx); exact HFU.out x hx) HNU.out k
    have hyU : ys.length ≤ U.length := nodup_le hC.nd hin
    obtain ⟨A', c', rfl⟩ := own_slice hC.row
    have cl := (blk_cell hC.lst 0).trans (Eq.refl (some (Value.slice A' ys.length c')))
    by_cases hlt : k < ys.length
    · obtain ⟨b, rfl, hcx⟩ := row_at hC.row k hlt
      obtain ⟨x, hx⟩ : ∃ x, x = ys.getD k ByteArray.empty := ⟨_, rfl⟩
      rw [← hx] at hcx
      have HC := Lib.hid hC
      have HX := Lib.hid hx
      have HY := Lib.hid hys
      have HJk := Lib.hid hJk
      have HSZ := Lib.hid hsz
      have hkl : (k : Int) < (ys.length : Int) := by omega
      have hyl : (ys.length : Int) ≤ 16777216 := by omega
      clear hC hys hx hin hJk hc hsz
      go_wp2_with fail
      refine (HNX.out (ys.take k) x wr HJk.out HSZ.out).mono ?_
      rintro e w2 ⟨A2, n2, rfl, hn2, hJ2, hk2, hr2⟩
      have hC2 := HC.out.move (w1 := w2) (fun i hi hB => hk2.2 i hi (by omega))
      have HC2 := Lib.hid hC2
      have HJ2 := Lib.hid hJ2
      have HR2 := Lib.hid hr2
      have HS2 := Lib.hid (Nat.le_trans HSZ.out hk2.1)
      clear hC2 hJ2 hk2 hr2
      go_wp2_with fail
      refine (put_calls (N x) A2 n2 w2 hn2 HC2.out HR2.out (HNL.out x) (by omega) HS2.out).mono ?_
      rintro e w3 ⟨rfl, u3, hC3, hB3⟩
      have HC3 := Lib.hid hC3
      have HB3' := Lib.hid hB3
      clear hC3 hB3
      go_wp2_with fail
      go_roundw
      case rel =>
        have hr : rounds N (addAll [] fs) (k + 1) = addAll ys (N x) := by
          show (match (rounds N (addAll [] fs) k)[k]? with | some x => addAll (rounds N (addAll [] fs) k) (N x) | none => rounds N (addAll [] fs) k) = _
          rw [← HY.out, List.getElem?_eq_getElem hlt, HX.out]
          simp [List.getD_eq_getElem?_getD, hlt]
        obtain ⟨zs, hz⟩ := addAll_pre (N x) ys
        have htk : List.take (k + 1) (addAll ys (N x)) = ys.take k ++ [x] := by
          rw [hz, List.take_append_of_le_length (by omega), List.take_succ_eq_append_getElem hlt, HX.out]
          simp [List.getD_eq_getElem?_getD, hlt]
        refine ⟨k + 1, u3, by go_num, by rw [hr]; exact HC3.out, by rw [hr, hz, List.length_append]; omega, ?_, Nat.le_trans HS2.out HB3'.out.size⟩
        rw [hr, htk]
        exact HJ.out _ _ _ HJ2.out HB3'.out
      case measure => simp [intOf]; omega
    · obtain rfl : k = ys.length := by omega
      rw [List.take_length] at hJk
      have HY := Lib.hid hys
      have HC := Lib.hid hC
      have HJk := Lib.hid hJk
      clear hys hC hJk hin hyU
      go_wp2
      go_ret
      exact ⟨_, ys, rfl, HC.out.row, HY.out, HC.out.nd, HJk.out, hsz⟩
end Go.Proofs.YteefneemmdfncaaDoor.M
namespace Go.Proofs.YteefneemmdfncaaDoor.M
open Go.RowKit Go.Proofs.YteefneemmdfncaaDoorW.Raw Go.Proofs.YteefneemmdfncaaDoorW.PrintWords Go.Proofs.YteefneemmdfncaaDoor.F
set_option linter.unusedVariables false
theorem C_own {w : World} {base n c : Nat} {A : Option Addr} {xs : List ByteArray} (h : w.ownsRow base 9 1 (.slice A n c) n (encS xs)) : Kd.C Kd.string w A n xs := by
  have hl : xs.length = n := by have := h.1; simpa [encS, encs] using this
  refine ⟨hl, ?_, fun hp => ?_⟩
  · rcases h.2 with ⟨_, h0⟩ | ⟨_, _, _, _, _, _, _, h3, _⟩
    · omega
    · simp only [maxLen] at h3
      omega
  · obtain ⟨b, hA, _⟩ := row_at h 0 hp
    refine ⟨⟨b, 0, none⟩, hA, fun j p hj => ?_⟩
    have hjl := (List.getElem?_eq_some_iff.1 hj).1
    obtain ⟨b', hA', hc⟩ := row_at h j (by omega)
    rw [hA] at hA'
    injection hA' with hA'
    injection hA' with hA'
    subst hA'
    refine ⟨[.string p], rfl, rfl, fun i u hu => ?_⟩
    cases i with
    | zero =>
      simp only [List.getElem?_cons_zero, Option.some.injEq] at hu
      subst hu
      rw [List.getD_eq_getElem?_getD, hj] at hc
      show w.cell? ((⟨b, 0, none⟩ : Addr).add (j * 1 + 0)) = _
      rw [add_plain]
      simpa using hc
    | succ i => simp at hu
theorem le_own {w : World} {base n c : Nat} {A : Option Addr} {xs : List ByteArray} (h : w.ownsRow base 9 1 (.slice A n c) n (encS xs)) : n ≤ c := by
  rcases h.2 with ⟨he, h0⟩ | ⟨_, _, _, he, _, _, h3, _⟩
  · injection he with _ h1 h2; omega
  · injection he with _ h1 h2; omega
set_option maxRecDepth 100000 in
theorem up1_calls {w : World} {base m bm : Nat} {ks : List ByteArray} {vs : List Value} {T : ByteArray → List ByteArray} (h : Grp w base m ks vs T) (hb : w.heap[bm]? = some (.cells #[.map (some m)] 130 (0, 0))) (x : ByteArray) :
    Calls Tryd.prog 111 #[.string x, .pointer (some ⟨bm, 0, none⟩)] w fun e w' => e = .returned (lookRow ks vs x) ∧ w' = w := by
  have c0 := (blk_cell hb 0).trans (Eq.refl (some (Value.map (some m))))
  have hL := run_lookRow h.raw x
  clear h hb
  go_enter Tryd.func111, Tryd.ntmps111
  go_wp2
  go_ret
  exact ⟨rfl, rfl⟩
theorem tos_mem {ps : List S97} {x y : ByteArray} : y ∈ tos ps x ↔ ∃ p ∈ ps, p.f0 = x ∧ p.f1 = y := by
  unfold tos
  rw [List.mem_map]
  constructor
  · rintro ⟨p, hp, rfl⟩
    rw [List.mem_filter] at hp
    exact ⟨p, hp.1, (bb _ _).1 hp.2, rfl⟩
  · rintro ⟨p, hp, rfl, rfl⟩
    exact ⟨p, List.mem_filter.2 ⟨hp, (bb _ _).2 rfl⟩, rfl⟩
theorem add_nil1 (x : ByteArray) : addAll [] [x] = [x] := by
  show add1 [] x = [x]
  rw [add1_new (by simp)]; rfl
set_option maxRecDepth 100000 in
set_option maxHeartbeats 1000000 in
theorem up_calls (ps : List S97) (A : Option Addr) (c : Nat) (name : ByteArray) (w : World) (hc : ps.length ≤ c) (hr : Kd.C k97 w A ps.length ps) (hn : ps.length ≤ 16777215) :
    Calls Tryd.prog 94 #[.slice A ps.length c, .string name] w fun e w' => ∃ (u : Value) (L : List ByteArray), e = .returned u ∧ w'.ownsRow w.heap.size 9 1 u L.length (encS L) ∧ L = rounds (tos ps) [name] L.length ∧ L.Nodup ∧ Below w.heap.size w w' := by
  have HR := Lib.hid hr
  clear hr
  go_enter Tryd.func94, Tryd.ntmps94
  go_wp2_with fail
  refine (lines_calls ps A c w hc HR.out (by omega)).mono ?_
  rintro e w1 ⟨m, ks, vs, rfl, hG, hB⟩
  have HG := Lib.hid hG
  have HB := Lib.hid hB
  clear hG hB
  go_wp2_with fail
  obtain ⟨W, hW⟩ : ∃ W, W = (w1.alloc (Obj.cells #[Value.map (some m)] 130)).alloc (Obj.cells #[Value.string name] 9) := ⟨_, rfl⟩
  have hbx : W.heap[w1.heap.size]? = some (.cells #[.map (some m)] 130 (0, 0)) := by rw [hW]; exact (heap_old _ _ (by simp)).trans (heap_new _ _)
  have hrow : W.heap[w1.heap.size + 1]? = some (.cells #[.string name] 9 (0, 0)) := by
    rw [hW]
    have := heap_new (w1.alloc (Obj.cells #[Value.map (some m)] 130)) (Obj.cells #[Value.string name] 9)
    rwa [size_new] at this
  have hBW : Below w1.heap.size w1 W := by rw [hW]; exact ((Below.refl _ _).alloc (Nat.le_refl _) _).alloc (by simp) _
  rw [← hW]
  have HBX := Lib.hid hbx
  have HRW := Lib.hid hrow
  have HGW := Lib.hid (HG.out.below hBW)
  have HBB := Lib.hid (HB.out.trans (hBW.mono HB.out.size))
  clear hW hbx hrow hBW
  refine (close_calls 111 #[.pointer (some ⟨w1.heap.size, 0, none⟩)] (tos ps) (name :: ps.map (·.f1)) (fun _ W' => (∀ i, i < W.heap.size → W'.heap[i]? = W.heap[i]?) ∧ Below w.heap.size w W') [name] _ 1 W (Nat.le_refl _) (fun W' hW' => ?hfs) ?hU ?hfU ?hNU (by simp) ?hNl ?hJ ⟨fun _ _ => rfl, HBB.out⟩ (Go.Proofs.enters_of Tryd.func111 (by kernel_rfl) rfl) ?hnext).mono ?_
  case hfs =>
    refine ⟨rfl, by simp, fun _ => ⟨⟨w1.heap.size + 1, 0, none⟩, rfl, fun j p hj => ?_⟩⟩
    have hjl := (List.getElem?_eq_some_iff.1 hj).1
    obtain rfl : j = 0 := by simpa using hjl
    simp only [List.getElem?_cons_zero, Option.some.injEq] at hj
    subst hj
    refine ⟨[.string name], rfl, rfl, fun i u hu => ?_⟩
    cases i with
    | zero =>
      simp only [List.getElem?_cons_zero, Option.some.injEq] at hu
      subst hu
      have := (blk_cell ((hW'.block _ (lt_of_get HRW.out)).trans HRW.out) 0).trans (Eq.refl (some (Value.string name)))
      show W'.cell? ((⟨w1.heap.size + 1, 0, none⟩ : Addr).add (0 * 1 + 0)) = _
      rw [add_plain]
      simpa using this
    | succ i => simp at hu
  case hU => rw [List.length_cons, List.length_map]; omega
  case hfU => intro x hx; rw [List.mem_singleton] at hx; subst hx; exact List.mem_cons_self
  case hNU =>
    intro x y hy
    obtain ⟨p, hp, _, rfl⟩ := tos_mem.1 hy
    exact List.mem_cons_of_mem _ (List.mem_map.2 ⟨p, hp, rfl⟩)
  case hNl => intro x; have := tos_len ps x; omega
  case hJ => intro pre W1 W2 hJ hb; exact ⟨fun i hi => (hb.block i hi).trans (hJ.1 i hi), hJ.2.trans (hb.mono HBB.out.size)⟩
  case hnext =>
    intro pre x W1 hJ hsz
    have hG1 : Grp W1 w.heap.size m ks vs (tos ps) := HGW.out.move (hJ.1 m HGW.out.raw.lt) (fun i v b hv hv2 => hJ.1 b (HGW.out.lt hv hv2))
    refine (up1_calls hG1 ((hJ.1 _ (lt_of_get HBX.out)).trans HBX.out) x).mono ?_
    rintro e W2 ⟨rfl, rfl⟩
    have hrow := hG1.look x
    obtain ⟨A1, n1, hv⟩ := own_slice hrow
    rw [hv] at hrow ⊢
    refine ⟨A1, n1, rfl, le_own hrow, hJ, Kept.refl _ _, fun W3 hW3 => C_own (own_move hrow (fun k hk => hW3.block k ?_))⟩
    have := own_lt (HGW.out.look x) k (by rw [hv]; exact hk)
    exact this
  rintro e w2 ⟨u, L, rfl, hown, hL, hnd, hJ, hsz⟩
  have HO := Lib.hid hown
  have HL := Lib.hid hL
  have HJ := Lib.hid hJ
  clear hown hL hJ
  go_wp2_with fail
  go_ret
  refine ⟨u, L, rfl, own_weaken HO.out HBB.out.size, ?_, hnd, HJ.out.2⟩
  have := HL.out
  rwa [add_nil1] at this
end Go.Proofs.YteefneemmdfncaaDoor.M
namespace Go.Proofs.YteefneemmdfncaaDoor.M
open Go.RowKit Go.Proofs.YteefneemmdfncaaDoorW.Raw Go.Proofs.YteefneemmdfncaaDoorW.PrintWords Go.Proofs.YteefneemmdfncaaDoor.F
set_option linter.unusedVariables false
set_option maxRecDepth 100000 in
set_option maxHeartbeats 1000000 in
theorem grow_calls (n : Nat) (w : World) (hn : n ≤ 33554432) :
    Calls Tryd.prog 102 #[.slice none 0 0, .int .i64 n] w fun e w' => ∃ A c, e = .returned (.slice A 0 c) ∧ Kd.R k97 97 w' w.heap.size (fun _ => True) (.slice A 0 c) [] ∧ Below w.heap.size w w' := by
  by_cases h0 : n = 0
  · subst h0
    go_enter Tryd.func102, Tryd.ntmps102
    go_wp2
    go_ret
    exact ⟨_, _, rfl, Kd.R_nil _ _ _ _ _, Below.refl _ _⟩
  · have h1 : (0 : Int) < (n : Int) := by omega
    have h2 : (n : Int) ≤ 33554432 := by omega
    go_enter Tryd.func102, Tryd.ntmps102
    go_wp2_with ((with_reducible refine gate_builtin (b := .append) (xs := #[.tmp 20, .tmp 21]) rfl ?_); at_builtin; refine Kd.R_append_zeros k97 (w0 := w) w.heap.size rfl (.tmp 20) (.tmp 21) 24 3 97 (.agg #[(.string ⟨#[]⟩), (.string ⟨#[]⟩)]) 32 rfl Tryd.underlying24 Tryd.underlying3 info97 rfl (by decide) (by omega) (.slice none 0 0) ([] : List S97) z97 (n : Int) (fun _ => True) rfl rfl (k97_mkM _ _ _ _) (fun _ _ => trivial) (Kd.R_nil _ _ _ _ _) (by omega) (Below.refl _ _) (Nat.le_refl _) (by simp; omega) ?_; intro v1 w1 hR hb hg hat; obtain ⟨A1, c1, hv⟩ := Kd.R_slice hR; subst hv; have HR := Lib.hid hR; have HB := Lib.hid hb; clear hR hb hg hat; rw [List.nil_append, List.length_replicate, Int.toNat_natCast] at HR ⊢)
    go_ret
    refine ⟨_, _, rfl, ?_, HB.out⟩
    have := Kd.R_take (m := 0) HR.out (Nat.zero_le _)
    rw [List.take_zero] at this
    exact this
end Go.Proofs.YteefneemmdfncaaDoor.M
namespace Go.Proofs.YteefneemmdfncaaDoor.M
open Go.RowKit Go.Proofs.YteefneemmdfncaaDoorW.Raw Go.Proofs.YteefneemmdfncaaDoorW.PrintWords Go.Proofs.YteefneemmdfncaaDoor.F
set_option linter.unusedVariables false
set_option maxRecDepth 100000 in
set_option maxHeartbeats 2000000 in
theorem concat_calls (b : Nat) (ps qs : List S97) (A1 A2 : Option Addr) (c1 c2 : Nat) (w : World) (hb : w.heap[b]? = some (.cells #[.slice A1 ps.length c1, .slice A2 qs.length c2] 24 (0, 0)))
    (h1 : Kd.C k97 w A1 ps.length ps) (h2 : Kd.C k97 w A2 qs.length qs) (hn : ps.length + qs.length ≤ 16777216) :
    Calls Tryd.prog 82 #[.slice (some ⟨b, 0, none⟩) 2 2] w fun e w' => ∃ A c, e = .returned (.slice A (ps ++ qs).length c) ∧ Kd.R k97 97 w' w.heap.size (fun _ => True) (.slice A (ps ++ qs).length c) (ps ++ qs) ∧ Below w.heap.size w w' := by
  have d0 := (blk_cell hb 0).trans (Eq.refl (some (Value.slice A1 ps.length c1)))
  have d1 := (blk_cell hb 1).trans (Eq.refl (some (Value.slice A2 qs.length c2)))
  have n1 : (ps.length : Int) + (qs.length : Int) ≤ 16777216 := by omega
  have HB := Lib.hid hb
  have H1 := Lib.hid h1
  have H2 := Lib.hid h2
  clear hb h1 h2
  go_enter Tryd.func82, Tryd.ntmps82
  go_wp2_with fail
  refine wp_loop_rounds 3 ?_
  rw [rounds_succ]
  go_wp2_with fail
  rw [rounds_succ]
  go_wp2_with fail
  rw [rounds_succ]
  go_wp2_with fail
  rw [show ((ps.length : Int) + (qs.length : Int)) = ((ps.length + qs.length : Nat) : Int) from by omega]
  refine (grow_calls (ps.length + qs.length) w (by omega)).mono ?_
  rintro e w1 ⟨A3, c3, rfl, hR, hB1⟩
  have HR := Lib.hid hR
  have HB1 := Lib.hid hB1
  have hb1 := (hB1.block b (lt_of_get HB.out)).trans HB.out
  have d0 := (blk_cell hb1 0).trans (Eq.refl (some (Value.slice A1 ps.length c1)))
  have d1 := (blk_cell hb1 1).trans (Eq.refl (some (Value.slice A2 qs.length c2)))
  have HBB1 := Lib.hid hb1
  clear hR hB1 hb1
  go_wp2_with fail
  refine wp_loop_rounds 3 ?_
  rw [rounds_succ]
  go_wp2_with ((with_reducible refine gate_builtin (b := .append) (xs := #[.tmp 31, .tmp 32]) rfl ?_); at_builtin; refine Kd.R_append_rows k97 (w0 := w) w.heap.size rfl (.tmp 31) (.tmp 32) 24 97 (.agg #[(.string ⟨#[]⟩), (.string ⟨#[]⟩)]) 32 rfl Tryd.underlying24 info97 rfl (by decide) (by omega) (.slice A3 0 c3) ([] : List S97) ps _ _ _ (fun _ => True) (fun _ => False) rfl rfl HR.out (Kd.C_below H1.out HB1.out) (fun _ _ h => h) (fun _ h => h.elim) (fun _ _ => trivial) HB1.out HB1.out.size (by simp; omega) ?_; intro v2 w2 hR2 hB2 hg2 hat2; rw [List.nil_append] at hR2; obtain ⟨A4, c4, hv⟩ := Kd.R_slice hR2; subst hv; have HR2 := Lib.hid hR2; have HB2 := Lib.hid hB2; have hb2 := (hB2.block b (lt_of_get HB.out)).trans HB.out; have e1 := (blk_cell hb2 1).trans (Eq.refl (some (Value.slice A2 qs.length c2))); clear hR2 hB2 hg2 hat2 hb2)
  rw [rounds_succ]
  go_wp2_with ((with_reducible refine gate_builtin (b := .append) (xs := #[.tmp 31, .tmp 32]) rfl ?_); at_builtin; refine Kd.R_append_rows k97 (w0 := w) w.heap.size rfl (.tmp 31) (.tmp 32) 24 97 (.agg #[(.string ⟨#[]⟩), (.string ⟨#[]⟩)]) 32 rfl Tryd.underlying24 info97 rfl (by decide) (by omega) (.slice A4 ps.length c4) ps qs _ _ _ (fun _ => True) (fun _ => False) rfl rfl HR2.out (Kd.C_below H2.out HB2.out) (fun _ _ h => h) (fun _ h => h.elim) (fun _ _ => trivial) HB2.out HB2.out.size (by omega) ?_; intro v3 w3 hR3 hB3 hg3 hat3; obtain ⟨A5, c5, hv⟩ := Kd.R_slice hR3; subst hv; have HR3 := Lib.hid hR3; have HB3 := Lib.hid hB3; clear hR3 hB3 hg3 hat3)
  rw [rounds_succ]
  go_wp2_with fail
  go_ret
  exact ⟨A5, c5, by rw [List.length_append]; rfl, HR3.out, HB3.out⟩
end Go.Proofs.YteefneemmdfncaaDoor.M
namespace Go.Proofs.YteefneemmdfncaaDoor.M
open Go.RowKit Go.Proofs.YteefneemmdfncaaDoorW.Raw Go.Proofs.YteefneemmdfncaaDoorW.PrintWords Go.Proofs.YteefneemmdfncaaDoor.F
set_option linter.unusedVariables false
attribute [local go_sem] run_store_float
/-- Block m is the set of the names L. -/
def SetOf (w : World) (m : Nat) (L : List ByteArray) : Prop := IsRaw w m (L.map Value.string) (L.map fun _ => unitV)
abbrev sideV (name : ByteArray) (t m : Nat) : Value := .agg #[.string name, .float .f64 t, .map (some m)]
theorem size74 : (Tryd.prog.info? 74).map (·.size) = some 3 := by kernel_rfl
set_option maxRecDepth 100000 in
set_option maxHeartbeats 2000000 in
theorem stand_calls (name : ByteArray) (ps qs : List S97) (A1 A2 : Option Addr) (c1 c2 : Nat) (w : World) (h1 : Kd.C k97 w A1 ps.length ps) (h2 : Kd.C k97 w A2 qs.length qs) (hc1 : ps.length ≤ c1) (hc2 : qs.length ≤ c2) (hn : ps.length + qs.length ≤ 16777215) :
    Calls Tryd.prog 75 #[.string name, .slice A1 ps.length c1, .slice A2 qs.length c2] w fun e w' => ∃ (m : Nat) (L : List ByteArray), e = .returned (sideV name 0 m) ∧ SetOf w' m L ∧ L = rounds (tos (ps ++ qs)) [name] L.length ∧ L.Nodup ∧ w.heap.size ≤ m ∧ Below w.heap.size w w' := by
  have H1 := Lib.hid h1
  have H2 := Lib.hid h2
  have hmm := @run_makeMap Tryd.prog
  clear h1 h2
  go_enter Tryd.func75, Tryd.ntmps75
  go_wp2_with fail
  obtain ⟨m, hm⟩ : ∃ m, m = w.heap.size + 1 := ⟨_, rfl⟩
  obtain ⟨W, hW⟩ : ∃ W, W = ((((w.alloc (Obj.cells #[Value.string ⟨#[]⟩, Value.float FloatKind.f64 0, Value.map none] 74)).alloc (Obj.map #[] 0)).alloc (Obj.cells #[Value.string name, Value.float FloatKind.f64 0, Value.map (some (w.heap.size + 1))] 74)).alloc (Obj.cells #[Value.slice A1 ps.length c1, Value.slice A2 qs.length c2] 24)) := ⟨_, rfl⟩
  have hr6 : W.heap[w.heap.size]? = some (.cells #[Value.string ⟨#[]⟩, Value.float FloatKind.f64 0, Value.map none] 74 (0, 0)) := by rw [hW]; exact (heap_old _ _ (by simp <;> omega)).trans ((heap_old _ _ (by simp <;> omega)).trans ((heap_old _ _ (by simp)).trans (heap_new _ _)))
  have hmp : W.heap[m]? = some (.map #[] 0) := by
    rw [hW, hm]
    refine (heap_old _ _ (by simp <;> omega)).trans ((heap_old _ _ (by simp)).trans ?_)
    have := heap_new (w.alloc (Obj.cells #[Value.string ⟨#[]⟩, Value.float FloatKind.f64 0, Value.map none] 74)) (Obj.map #[] 0)
    rwa [size_new] at this
  have hr7 : W.heap[w.heap.size + 1 + 1]? = some (.cells #[Value.string name, Value.float FloatKind.f64 0, Value.map (some m)] 74 (0, 0)) := by
    rw [hW, hm]
    refine (heap_old _ _ (by simp)).trans ?_
    have := heap_new ((w.alloc (Obj.cells #[Value.string ⟨#[]⟩, Value.float FloatKind.f64 0, Value.map none] 74)).alloc (Obj.map #[] 0)) (Obj.cells #[Value.string name, Value.float FloatKind.f64 0, Value.map (some (w.heap.size + 1))] 74)
    rwa [size_new, size_new] at this
  have hrb : W.heap[w.heap.size + 1 + 1 + 1]? = some (.cells #[Value.slice A1 ps.length c1, Value.slice A2 qs.length c2] 24 (0, 0)) := by
    rw [hW]
    have := heap_new (((w.alloc (Obj.cells #[Value.string ⟨#[]⟩, Value.float FloatKind.f64 0, Value.map none] 74)).alloc (Obj.map #[] 0)).alloc (Obj.cells #[Value.string name, Value.float FloatKind.f64 0, Value.map (some (w.heap.size + 1))] 74)) (Obj.cells #[Value.slice A1 ps.length c1, Value.slice A2 qs.length c2] 24)
    rwa [size_new, size_new, size_new] at this
  have hbw : Below w.heap.size w W := by rw [hW]; exact ((((Below.refl _ w).alloc (Nat.le_refl _) _).alloc (by simp) _).alloc (by simp <;> omega) _).alloc (by simp <;> omega) _
  rw [← hW, ← hm]
  rw [← hm] at hr7 hrb
  have HM := Lib.hid hm
  have HR6 := Lib.hid hr6
  have HR7 := Lib.hid hr7
  have HMP := Lib.hid hmp
  have HBW := Lib.hid hbw
  clear hW hm hr6 hr7 hmp hbw
  refine (concat_calls _ ps qs A1 A2 c1 c2 W hrb (Kd.C_below H1.out HBW.out) (Kd.C_below H2.out HBW.out) (by omega)).mono ?_
  rintro e W1 ⟨A3, c3, rfl, hR, hB1⟩
  obtain ⟨_, hc3, hC3⟩ : (ps ++ qs).length = (ps ++ qs).length ∧ (ps ++ qs).length ≤ c3 ∧ Kd.C k97 W1 A3 (ps ++ qs).length (ps ++ qs) := by
    obtain ⟨A', c', e, h1, h2⟩ := Kd.R_reads hR
    injection e with e1 e2 e3
    subst e1
    subst e3
    exact ⟨rfl, h1, h2⟩
  have HR3 := Lib.hid hC3
  have HB1 := Lib.hid hB1
  clear hR hC3 hB1 hrb
  go_wp2_with fail
  rw [← List.length_append]
  refine (up_calls (ps ++ qs) A3 c3 name W1 hc3 HR3.out (by rw [List.length_append]; omega)).mono ?_
  rintro e W2 ⟨u, L, rfl, hown, hL, hnd, hB2⟩
  obtain ⟨A4, c4, rfl⟩ := own_slice hown
  have hbb : Below W.heap.size W W2 := HB1.out.trans (hB2.mono HB1.out.size)
  have h6' := (hbb.block _ (lt_of_get HR6.out)).trans HR6.out
  have h7' := (hbb.block _ (lt_of_get HR7.out)).trans HR7.out
  have hm' := (hbb.block _ (lt_of_get HMP.out)).trans HMP.out
  have HBB := Lib.hid (HBW.out.trans (hbb.mono HBW.out.size))
  have HO := Lib.hid hown
  have HL := Lib.hid hL
  have HND := Lib.hid hnd
  have HLL := Lib.hid (show L.length ≤ 16777216 from by
    have : L.length ≤ (name :: (ps ++ qs).map (·.f1)).length := nodup_le hnd (by
      rw [hL]
      exact rounds_in (fun x hx => by rw [List.mem_singleton] at hx; subst hx; exact List.mem_cons_self) (fun x y hy => by
        obtain ⟨p, hp, _, rfl⟩ := tos_mem.1 hy
        exact List.mem_cons_of_mem _ (List.mem_map.2 ⟨p, hp, rfl⟩)) _)
    rw [List.length_cons, List.length_map, List.length_append] at this
    omega)
  have H6 := Lib.hid h6'
  have H7 := Lib.hid h7'
  have HM' := Lib.hid hm'
  have hml : m < W.heap.size := lt_of_get HMP.out
  have HSZ := Lib.hid hbb.size
  clear h6' h7' hm' hown hL hnd hbb hB2
  go_wp2_with fail
  go_loopw [20] (fun i wr => ∃ k : Nat, k ≤ L.length ∧ i = .int .i64 (k : Nat) ∧ SetOf wr m (L.take k) ∧ (∀ i, i < W2.heap.size → i ≠ m → wr.heap[i]? = W2.heap[i]?) ∧ Below w.heap.size w wr) (fun i _ => L.length - (intOf i).toNat)
  case atStart => exact ⟨0, Nat.zero_le _, rfl, ⟨#[], 0, HM'.out, rfl, rfl⟩, fun _ _ _ => rfl, HBB.out⟩
  case round =>
    obtain ⟨k, hk, rfl, hS, hsame, hB⟩ := hrel
    have g7 := (hsame _ (lt_of_get H7.out) (by have := HM.out; omega)).trans H7.out
    have c70 := (blk_cell g7 0).trans (Eq.refl (some (Value.string name)))
    have c71 := (blk_cell g7 1).trans (Eq.refl (some (Value.float .f64 0)))
    have c72 := (blk_cell g7 2).trans (Eq.refl (some (Value.map (some m))))
    have g6 := (hsame _ (lt_of_get H6.out) (by have := HM.out; omega)).trans H6.out
    by_cases hlt : k < L.length
    · obtain ⟨b, rfl, _⟩ := row_at HO.out k hlt
      have hrow : wr.ownsRow W1.heap.size 9 1 (.slice (some ⟨b, 0, none⟩) L.length c4) L.length (encS L) := own_move HO.out (fun j hj => hsame j (own_lt HO.out j hj) (by have := own_base HO.out j hj; have := HB1.out.size; omega))
      obtain ⟨b', e, hcx⟩ := row_at hrow k hlt
      cases e
      obtain ⟨x, hx⟩ : ∃ x, x = L.getD k ByteArray.empty := ⟨_, rfl⟩
      rw [← hx] at hcx
      have hkx : L[k]? = some x := by rw [hx, List.getD_eq_getElem?_getD, List.getElem?_eq_getElem hlt]; rfl
      have htk : List.take (k + 1) L = List.take k L ++ [x] := by rw [List.take_add_one, hkx]; rfl
      have hnin : x ∉ List.take k L := by
        intro hin
        have h1 := HND.out
        rw [← List.take_append_drop (k + 1) L, htk, List.nodup_append] at h1
        have h2 := (List.nodup_append.1 h1.1).2.2 x hin x (by simp)
        exact h2 rfl
      have HS := Lib.hid hS
      have HSM := Lib.hid hsame
      have HB' := Lib.hid hB
      have HT := Lib.hid htk
      have HN := Lib.hid hnin
      have hLk : (k : Int) < (L.length : Int) := by omega
      have hLb : (L.length : Int) ≤ 16777216 := by have := HLL.out; omega
      clear hS hsame hB htk hnin hx hkx g7 g6 hrow
      go_wp2_with (at_mapUpdate; go_must (refine wpList_new rfl _ _ _ rfl keyS Tryd.underlying72 rfl HS.out x rfl unitV rfl (find_none_of HN.out) ?_); intro es cl hraw; have HRW := Lib.hid hraw; clear hraw)
      go_roundw
      case rel =>
        refine ⟨k + 1, hlt, by go_num, ?_, fun i hi hn => (set_other hn).trans (HSM.out i hi hn), below_set_map HB'.out (by have := HM.out; omega)⟩
        have := HRW.out
        rw [HT.out]
        unfold SetOf
        rw [show (List.take k L ++ [x]).map (fun _ => unitV) = (List.take k L).map (fun _ => unitV) ++ [unitV] by simp]
        exact this
      case measure => simp [intOf]; omega
    · obtain rfl : k = L.length := by omega
      rw [List.take_length] at hS
      have HS := Lib.hid hS
      have HB' := Lib.hid hB
      have HG6 := Lib.hid g6
      clear hS hB hsame g7 g6
      go_wp2_with ((with_reducible refine gate_ (.store 74 (.tmp 6) (.tmp 29)) rfl ?_); refine bstore (t := 74) (p := 6) (v := .tmp 29) rfl rfl rfl w.heap.size _ #[Value.string name, Value.float .f64 0, Value.map (some m)] (sideV name 0 m) rfl rfl rfl HG6.out size74 rfl (by simp [Value.oneCell']) ?_; intro w5 hb5 hs5 hz5 hB5; have HB5 := Lib.hid hb5; have HS5 := Lib.hid hs5; have HBB5 := Lib.hid hB5; clear hb5 hs5 hz5 hB5)
      refine bodyPost_ret (results_cell_row rfl _ _ w.heap.size 74 #[Value.string name, Value.float .f64 0, Value.map (some m)] (0, 0) _ rfl HB5.out Tryd.underlying74 rfl size74) rfl ?_
      exact ⟨m, L, rfl, HS.out.move (HS5.out m (by have := HM.out; omega)), HL.out, HND.out, by have := HM.out; omega, HB'.out.trans (HBB5.out _ (Nat.le_refl _))⟩
theorem k48_heap : Kd.Heap F.k48 := Kd.heap_iso _ (Kd.heap_pair Kd.heap_bool (Kd.heap_pair Kd.heap_string (Kd.heap_pair Kd.heap_string (Kd.heap_pair (Kd.heap_slice 9 Kd.heap_string) (Kd.heap_pair (Kd.heap_int .i8) Kd.heap_float)))))
end Go.Proofs.YteefneemmdfncaaDoor.M
