import Derived.Test.YteefneemmdfncaaDoorRA
import Derived.Test.YteefneemmdfncaaDoorF5
import Derived.Laws.ResultCell
import Derived.Test.YteefneemmdfncaaDoorWNEv
/- What a policy says, as plain functions; what is reached, in one word. Conditions: each theorem's own.
mean.subject, mean.object. Conditions: the policy reads as it must; its pairs are at most 16777215.
mean.side.has, speaks, about. Conditions: each theorem's own.
mean.about: the rules that speak of a side and a side. Conditions: each theorem's own. -/
namespace Go.Proofs.YteefneemmdfncaaDoor.M
open Go.RowKit Go.Proofs.YteefneemmdfncaaDoorW.Raw Go.Proofs.YteefneemmdfncaaDoorW.PrintWords Go.Proofs.YteefneemmdfncaaDoor.F
set_option linter.unusedVariables false
abbrev Pair := S97
abbrev Rule := S48
abbrev Tri := S30
abbrev Sub := S61
abbrev Pol := S28
def memB (l : List ByteArray) (x : ByteArray) : Bool := l.any fun y => x == y
theorem memB_iff {l : List ByteArray} {x : ByteArray} : memB l x = true ↔ x ∈ l := any_iff l x
def passB (c : Int) (lv tr : Nat) : Bool := if c = 0 then true else if c = 1 then fge tr lv else if c = 2 then flt tr lv else false
def trustOf (l : List Sub) (n : ByteArray) : Option Nat := (l.find? fun s => n == s.f0).map (·.f1)
/-- What is reached from a name along pairs, the name first. -/
def upL (ps : List Pair) (n : ByteArray) : List ByteArray := rounds (tos ps) [n] (ps.length + 1)
def upS (p : Pol) (n : ByteArray) : List ByteArray := upL (p.f5 ++ p.f6) n
def upO (p : Pol) (n : ByteArray) : List ByteArray := upL (p.f7 ++ p.f8) n
def namesB (r : Rule) (a : ByteArray) : Bool := r.f3.isEmpty || memB r.f3 a
def speakB (r : Rule) (tr : Nat) (us uo : List ByteArray) : Bool := memB us r.f1 && memB uo r.f2 && passB r.f4 r.f5 tr
def eqT (a b : Tri) : Bool := a.f0 == b.f0 && a.f1 == b.f1 && a.f2 == b.f2
def matchB (p : Pol) (r : Rule) (t : Tri) : Bool := match trustOf p.f1 t.f0 with
  | none => false
  | some tr => memB p.f3 t.f1 && memB p.f0 t.f2 && namesB r t.f2 && speakB r tr (upS p t.f0) (upO p t.f1)
def allowB (rs : List Rule) (ex : List Tri) (t : Tri) : Bool := (rs.any fun r => namesB r t.f2) && !(rs.any fun r => namesB r t.f2 && r.f0) && !(ex.any fun u => eqT t u)
def aboutL (p : Pol) (tr : Nat) (us uo : List ByteArray) : List Rule := p.f9.filter fun r => speakB r tr us uo
def allowsB (p : Pol) (t : Tri) : Bool := match trustOf p.f1 t.f0 with
  | none => false
  | some tr => memB p.f3 t.f1 && memB p.f0 t.f2 && allowB (aboutL p tr (upS p t.f0) (upO p t.f1)) p.f10 t
theorem rounds_stay {N : ByteArray → List ByteArray} {L0 : List ByteArray} {k : Nat} (h : (rounds N L0 k).length ≤ k) (d : Nat) : rounds N L0 (k + d) = rounds N L0 k := by
  induction d with
  | zero => rfl
  | succ d ih =>
    show (match (rounds N L0 (k + d))[k + d]? with | some x => addAll (rounds N L0 (k + d)) (N x) | none => rounds N L0 (k + d)) = _
    rw [ih, List.getElem?_eq_none (by omega)]
theorem up_len {ps : List Pair} {n : ByteArray} {L : List ByteArray} (h : L = rounds (tos ps) [n] L.length) (hn : L.Nodup) : L.length ≤ ps.length + 1 := by
  have := nodup_le (U := n :: ps.map (·.f1)) hn (by
    rw [h]
    exact rounds_in (fun x hx => by rw [List.mem_singleton] at hx; subst hx; exact List.mem_cons_self) (fun x y hy => by
      obtain ⟨p, hp, _, rfl⟩ := tos_mem.1 hy
      exact List.mem_cons_of_mem _ (List.mem_map.2 ⟨p, hp, rfl⟩)) _)
  rwa [List.length_cons, List.length_map] at this
theorem up_of {ps : List Pair} {n : ByteArray} {L : List ByteArray} (h : L = rounds (tos ps) [n] L.length) (hn : L.Nodup) : L = upL ps n := by
  have h1 := up_len h hn
  obtain ⟨d, hd⟩ : ∃ d, ps.length + 1 = L.length + d := ⟨ps.length + 1 - L.length, by omega⟩
  unfold upL
  rw [hd, rounds_stay (by rw [← h]; exact Nat.le_refl _)]
  exact h
/-! ### the printed look-ups -/
theorem toList_iff (a b : ByteArray) : a.toList = b.toList ↔ a = b := by
  rw [← bb, Go.beq_toListBytes, beq_iff_eq]
theorem index_ev (l : List ByteArray) (x : ByteArray) (hl : l.length ≤ 9223372036854775807) (d : Nat) : ∀ (k i : Nat), i ≤ l.length → l.length - i = d → d < k →
    ∃ r, slices_Index_string_string.l0 k l x (l.length : Int) (i : Int) = some r ∧ (decide (r ≥ 0) = memB (l.drop i) x) := by
  induction d with
  | zero =>
    intro k i h1 hd hk
    obtain ⟨k, rfl⟩ : ∃ m, k = m + 1 := ⟨k - 1, by omega⟩
    refine ⟨-1, by simp only [slices_Index_string_string.l0]; rw [if_neg (by omega)], ?_⟩
    rw [List.drop_of_length_le (by omega)]
    rfl
  | succ d ih =>
    intro k i h1 hd hk
    obtain ⟨k, rfl⟩ : ∃ m, k = m + 1 := ⟨k - 1, by omega⟩
    have hlt : i < l.length := by omega
    have hg : rdOf ByteArray.empty l (i : Int) = l[i] := by simp [rdOf, hlt]
    have hdr : l.drop i = l[i] :: l.drop (i + 1) := List.drop_eq_getElem_cons hlt
    simp only [slices_Index_string_string.l0]
    rw [if_pos (by omega), if_pos (by omega), if_pos (by omega), hg]
    by_cases he : x.toList = l[i].toList
    · rw [if_pos he]
      refine ⟨i, rfl, ?_⟩
      rw [hdr]
      have : (x == l[i]) = true := (bb _ _).2 ((toList_iff _ _).1 he)
      simp only [memB, List.any_cons, this, Bool.true_or]
      exact decide_eq_true (by omega)
    · rw [if_neg he]
      obtain ⟨r, hr, hm⟩ := ih k (i + 1) (by omega) (by omega) (by omega)
      refine ⟨r, ?_, ?_⟩
      · rw [show wrap64 ((i : Int) + 1) = ((i + 1 : Nat) : Int) from by unfold wrap64; omega]; exact hr
      · rw [hm, hdr]
        have : (x == l[i]) = false := by
          cases hq : (x == l[i]) with
          | false => rfl
          | true => exact absurd ((toList_iff _ _).2 ((bb _ _).1 hq)) he
        simp only [memB, List.any_cons, this, Bool.false_or]
theorem contains_f (l : List ByteArray) (x : ByteArray) (hl : l.length ≤ 9223372036854775807) : slices_Contains_string_string.f (l.length + 1) l x = some (memB l x) := by
  obtain ⟨r, hr, hm⟩ := index_ev l x hl l.length (l.length + 1) 0 (Nat.zero_le _) (by omega) (by omega)
  unfold slices_Contains_string_string.f slices_Index_string_string.f
  rw [show (0 : Int) = ((0 : Nat) : Int) from rfl, hr]
  simp only [Option.bind_some]
  rw [show ((0 : Nat) : Int) = (0 : Int) from rfl, hm, List.drop_zero]
theorem contains_calls (l : List ByteArray) (x : ByteArray) (A : Option Addr) (c : Nat) (w : World) (hr : Kd.C Kd.string w A l.length l) (hc : l.length ≤ c) :
    Calls Tryd.prog 47 #[.slice A l.length c, .string x] w fun e w' => e = .returned (.bool (memB l x)) ∧ ∃ n, w' = w.drewN n :=
  (slices_Contains_string_string.calls (l.length + 1) A c l x (memB l x) w hr hc (contains_f l x hr.2.1)).mono fun e w' ⟨he, hd⟩ => ⟨he, hd.out⟩
end Go.Proofs.YteefneemmdfncaaDoor.M
namespace Go.Proofs.YteefneemmdfncaaDoor.M
open Go.RowKit Go.Proofs.YteefneemmdfncaaDoorW.Raw Go.Proofs.YteefneemmdfncaaDoorW.PrintWords Go.Proofs.YteefneemmdfncaaDoor.F
set_option linter.unusedVariables false
attribute [local go_sem] run_store_float
abbrev sideNil : Value := .agg #[.string ⟨#[]⟩, .float .f64 0, .map none]
theorem trust_none {l : List Sub} {n : ByteArray} (h : ∀ j, j < l.length → ∀ s, l[j]? = some s → (n == s.f0) = false) : trustOf l n = none := by
  unfold trustOf
  rw [List.find?_eq_none.2 (fun s hs => ?_)]
  · rfl
  · obtain ⟨j, hj⟩ := List.mem_iff_getElem?.1 hs
    rw [h j (List.getElem?_eq_some_iff.1 hj).1 s hj]
    simp
theorem trust_some {l : List Sub} {n : ByteArray} {k : Nat} {s : Sub} (h : ∀ j, j < k → ∀ s, l[j]? = some s → (n == s.f0) = false) (hk : l[k]? = some s) (hs : (n == s.f0) = true) : trustOf l n = some s.f1 := by
  have : l.find? (fun s => n == s.f0) = some s := by
    rw [List.find?_eq_some_iff_getElem]
    obtain ⟨hl, he⟩ := List.getElem?_eq_some_iff.1 hk
    refine ⟨hs, k, hl, he, fun j hj => ?_⟩
    simp [h j hj _ (List.getElem?_eq_getElem (by omega))]
  unfold trustOf
  rw [this]; rfl
theorem eqS_true {a b : ByteArray} (h : a = b) : (a.toList == b.toList) = true := by rw [h]; exact beq_self_eq_true _
theorem results_side {fn : Func} {p u : Tmp} (h : fn.results = #[.cell p 74, .tmp u]) (tmps : Array Value) (w : World) (g : Nat) (cs : Array Value) (hp : tmps.getD p undef = .pointer (some ⟨g, 0, none⟩)) (hg : w.heap[g]? = some (.cells cs 74 (0, 0))) (hl : cs.size = 3) :
    (results fn tmps).run Tryd.prog w = .ok (.tuple #[.agg cs, tmps.getD u undef]) w := by
  rw [results_cell_tmp h, hp]
  simp [asAddr, run_loadVar_row w g 74 74 cs (0, 0) _ hg Tryd.underlying74 rfl (by rw [size74, hl])]
set_option maxRecDepth 100000 in
set_option maxHeartbeats 2000000 in
theorem subject_calls (p : Pol) (c : Array Value) (n : ByteArray) (w : World) (hk : k28.K w p c.toList) (hn : p.f5.length + p.f6.length ≤ 16777215) :
    Calls Tryd.prog 45 #[.agg c, .string n] w fun e w' => Below w.heap.size w w' ∧ ((trustOf p.f1 n = none ∧ e = .returned (.tuple #[sideNil, .bool false])) ∨ ∃ tr m, trustOf p.f1 n = some tr ∧ e = .returned (.tuple #[sideV n tr m, .bool true]) ∧ SetOf w' m (upS p n) ∧ w.heap.size ≤ m) := by
  obtain ⟨A0, c0, A1, c1, A2, c2, A3, c3, A4, c4, A5, c5, A6, c6, A7, c7, A8, c8, A9, c9, A10, c10, e_, l0, g0, l1, g1, l2, g2, l3, g3, l4, g4, l5, g5, l6, g6, l7, g7, l8, g8, l9, g9, l10, g10⟩ := k28_open hk
  obtain rfl : c = #[.slice A0 p.f0.length c0, .slice A1 p.f1.length c1, .slice A2 p.f2.length c2, .slice A3 p.f3.length c3, .slice A4 p.f4.length c4, .slice A5 p.f5.length c5, .slice A6 p.f6.length c6, .slice A7 p.f7.length c7, .slice A8 p.f8.length c8, .slice A9 p.f9.length c9, .slice A10 p.f10.length c10] := by cases c; simpa using e_
  clear e_
  have H1 := Lib.hid g1
  have H5 := Lib.hid g5
  have H6 := Lib.hid g6
  have hmx : p.f1.length ≤ 9223372036854775807 := g1.2.1
  clear hk g0 g1 g2 g3 g4 g5 g6 g7 g8 g9 g10 l0 l1 l2 l3 l4 l7 l8 l9 l10
  go_enter Tryd.func45, Tryd.ntmps45
  go_wp2_with fail
  obtain ⟨W1, hW1⟩ : ∃ W1, W1 = (w.alloc (Obj.cells #[Value.slice A0 p.f0.length c0, Value.slice A1 p.f1.length c1, Value.slice A2 p.f2.length c2, Value.slice A3 p.f3.length c3, Value.slice A4 p.f4.length c4, Value.slice A5 p.f5.length c5, Value.slice A6 p.f6.length c6, Value.slice A7 p.f7.length c7, Value.slice A8 p.f8.length c8, Value.slice A9 p.f9.length c9, Value.slice A10 p.f10.length c10] 28)).alloc (Obj.cells #[Value.string ⟨#[]⟩, Value.float .f64 0, Value.map none] 74) := ⟨_, rfl⟩
  have hp : W1.heap[w.heap.size]? = some (.cells #[Value.slice A0 p.f0.length c0, Value.slice A1 p.f1.length c1, Value.slice A2 p.f2.length c2, Value.slice A3 p.f3.length c3, Value.slice A4 p.f4.length c4, Value.slice A5 p.f5.length c5, Value.slice A6 p.f6.length c6, Value.slice A7 p.f7.length c7, Value.slice A8 p.f8.length c8, Value.slice A9 p.f9.length c9, Value.slice A10 p.f10.length c10] 28 (0, 0)) := by rw [hW1]; exact (heap_old _ _ (by simp)).trans (heap_new _ _)
  have hr : W1.heap[w.heap.size + 1]? = some (.cells #[Value.string ⟨#[]⟩, Value.float .f64 0, Value.map none] 74 (0, 0)) := by
    rw [hW1]
    have := heap_new (w.alloc (Obj.cells #[Value.slice A0 p.f0.length c0, Value.slice A1 p.f1.length c1, Value.slice A2 p.f2.length c2, Value.slice A3 p.f3.length c3, Value.slice A4 p.f4.length c4, Value.slice A5 p.f5.length c5, Value.slice A6 p.f6.length c6, Value.slice A7 p.f7.length c7, Value.slice A8 p.f8.length c8, Value.slice A9 p.f9.length c9, Value.slice A10 p.f10.length c10] 28)) (Obj.cells #[Value.string ⟨#[]⟩, Value.float .f64 0, Value.map none] 74)
    rwa [size_new] at this
  have hb : Below w.heap.size w W1 := by rw [hW1]; exact ((Below.refl _ w).alloc (Nat.le_refl _) _).alloc (by simp) _
  rw [← hW1]
  have HP := Lib.hid hp
  have HR := Lib.hid hr
  have HB := Lib.hid hb
  clear hW1 hp hr hb
  go_loopw [12] (fun i wr => ∃ k : Nat, k ≤ p.f1.length ∧ i = .int .i64 (k : Nat) ∧ Hid (∀ j, j < k → ∀ s, p.f1[j]? = some s → (n == s.f0) = false) ∧ Below W1.heap.size W1 wr) (fun i _ => p.f1.length - (intOf i).toNat)
  case atStart => exact ⟨0, Nat.zero_le _, rfl, Lib.hid (fun j hj => absurd hj (Nat.not_lt_zero _)), Below.refl _ _⟩
  case round =>
    obtain ⟨k, hk, rfl, HN, hB⟩ := hrel
    have hpr := (hB.block _ (lt_of_get HP.out)).trans HP.out
    have hrr := (hB.block _ (lt_of_get HR.out)).trans HR.out
    have q5 := (blk_cell hpr 5).trans (Eq.refl (some (Value.slice A5 p.f5.length c5)))
    have q6 := (blk_cell hpr 6).trans (Eq.refl (some (Value.slice A6 p.f6.length c6)))
    have HRR := Lib.hid hrr
    have HPR := Lib.hid hpr
    have HBW := Lib.hid (HB.out.trans (hB.mono HB.out.size))
    clear hpr hrr
    by_cases hlt : k < p.f1.length
    · obtain ⟨ad, rfl, e0, e1⟩ := at_T61 (Kd.C_below H1.out HBW.out) (k : Int) (by omega) (by omega)
      obtain ⟨s, hs⟩ : ∃ s, s = rd_T61 p.f1 (k : Int) := ⟨_, rfl⟩
      rw [← hs, Int.toNat_natCast] at e0 e1
      have hks : p.f1[k]? = some s := by rw [hs]; simp [rd_T61, List.getD_eq_getElem?_getD, hlt]
      have HKS := Lib.hid hks
      clear hs hks
      by_cases he : n = s.f0
      · have hq : (s.f0.toList == n.toList) = true := eqS_true he.symm
        have HE := Lib.hid (show (n == s.f0) = true from (bb _ _).2 he)
        have HB' := Lib.hid hB
        clear he hB
        obtain ⟨W2, hW2⟩ : ∃ W2, W2 = wr.alloc (Obj.cells #[Value.string s.f0, Value.float .f64 s.f1] 61) := ⟨_, rfl⟩
        have hb2 : Below wr.heap.size wr W2 := by rw [hW2]; exact (Below.refl _ _).alloc (Nat.le_refl _) _
        have hs2 : W2.heap[wr.heap.size]? = some (.cells #[Value.string s.f0, Value.float .f64 s.f1] 61 (0, 0)) := by rw [hW2]; exact heap_new _ _
        have hp2 := (hb2.block _ (lt_of_get HPR.out)).trans HPR.out
        have q5 := (blk_cell hp2 5).trans (Eq.refl (some (Value.slice A5 p.f5.length c5)))
        have q6 := (blk_cell hp2 6).trans (Eq.refl (some (Value.slice A6 p.f6.length c6)))
        have HB2 := Lib.hid hb2
        have HS2 := Lib.hid hs2
        rw [hW2] at q5 q6
        clear hb2 hs2 hp2
        go_wp2_with fail
        rw [← hW2]
        have HW2 := Lib.hid hW2
        clear hW2 q5 q6
        refine (stand_calls n p.f5 p.f6 A5 A6 c5 c6 W2 (Kd.C_below H5.out (HBW.out.trans (HB2.out.mono HBW.out.size))) (Kd.C_below H6.out (HBW.out.trans (HB2.out.mono HBW.out.size))) l5 l6 hn).mono ?_
        rintro e W3 ⟨m, L, rfl, hS, hL, hnd, hm, hB3⟩
        have hs3 := (hB3.block _ (lt_of_get HS2.out)).trans HS2.out
        have hs4 := (heap_old W3 (Obj.cells #[Value.string n, Value.float .f64 0, Value.map (some m)] 74) (lt_of_get hs3)).trans hs3
        have e1 := (blk_cell hs4 1).trans (Eq.refl (some (Value.float .f64 s.f1)))
        have hrr3 := (hB3.block _ (Nat.lt_of_lt_of_le (lt_of_get HRR.out) HB2.out.size)).trans ((HB2.out.block _ (lt_of_get HRR.out)).trans HRR.out)
        have HS := Lib.hid hS
        have HL := Lib.hid (up_of hL hnd)
        have HB3 := Lib.hid (HBW.out.trans ((HB2.out.trans (hB3.mono HB2.out.size)).mono HBW.out.size))
        have HR3 := Lib.hid hrr3
        have HM := Lib.hid hm
        clear hS hL hnd hm hrr3 hs3 hs4
        go_wp2_with ((with_reducible refine gate_ (.store 74 (.tmp 4) (.tmp 29)) rfl ?_); refine bstore (t := 74) (p := 4) (v := .tmp 29) rfl rfl rfl (w.heap.size + 1) _ #[Value.string n, Value.float .f64 s.f1, Value.map (some m)] (sideV n s.f1 m) rfl rfl rfl ((heap_old _ _ (lt_of_get HR3.out)).trans HR3.out) size74 rfl (by simp [Value.oneCell']) ?_; intro w5 hb5 hs5 hz5 hB5; have HB5 := Lib.hid hb5; have HBB5 := Lib.hid hB5; have HS5 := Lib.hid hs5; clear hb5 hs5 hz5 hB5)
        refine bodyPost_ret (results_side rfl _ _ (w.heap.size + 1) _ rfl HB5.out rfl) rfl ?_
        refine ⟨(HB3.out.alloc HB3.out.size _).trans (HBB5.out _ (by omega)), .inr ⟨s.f1, m, trust_some HN.out HKS.out HE.out, rfl, ?_, ?_⟩⟩
        · have h1 : m ≠ w.heap.size + 1 := by have := HM.out; have := HB2.out.size; have := lt_of_get HRR.out; omega
          have := HS.out.move (w' := w5) ((HS5.out m h1).trans (heap_old _ _ HS.out.lt))
          unfold upS
          rw [← HL.out]
          exact this
        · have := HM.out; have := HB2.out.size; have := HBW.out.size; omega
      · have hq : (s.f0.toList == n.toList) = false := by
          cases hq : (s.f0.toList == n.toList) with
          | false => rfl
          | true => exact absurd ((toList_iff _ _).1 (beq_iff_eq.1 hq)).symm he
        have HE := Lib.hid (show (n == s.f0) = false from by
          cases hq : (n == s.f0) with
          | false => rfl
          | true => exact absurd ((bb _ _).1 hq) he)
        have HB' := Lib.hid hB
        clear he hB q5 q6
        go_wp2
        go_roundw
        case rel => exact ⟨k + 1, hlt, by go_num, Lib.hid (fun j hj s' hs' => by
            by_cases h1 : j < k
            · exact HN.out j h1 s' hs'
            · obtain rfl : j = k := by omega
              rw [HKS.out] at hs'
              injection hs' with hs'
              subst hs'
              exact HE.out), HB'.out.alloc HB'.out.size _⟩
        case measure => simp [intOf]; omega
    · obtain rfl : k = p.f1.length := by omega
      have HB' := Lib.hid hB
      clear hB q5 q6 hlt
      go_wp2_with ((with_reducible refine gate_ (.store 74 (.tmp 4) (.tmp 31)) rfl ?_); refine bstore (t := 74) (p := 4) (v := .tmp 31) rfl rfl rfl (w.heap.size + 1) _ #[Value.string ⟨#[]⟩, Value.float .f64 0, Value.map none] sideNil rfl rfl rfl HRR.out size74 rfl (by simp [Value.oneCell']) ?_; intro w5 hb5 hs5 hz5 hB5; have HB5 := Lib.hid hb5; have HBB5 := Lib.hid hB5; clear hb5 hs5 hz5 hB5)
      refine bodyPost_ret (results_side rfl _ _ (w.heap.size + 1) _ rfl HB5.out rfl) rfl ?_
      exact ⟨HBW.out.trans (HBB5.out _ (by omega)), .inl ⟨trust_none HN.out, rfl⟩⟩
set_option maxRecDepth 100000 in
set_option maxHeartbeats 2000000 in
theorem object_calls (p : Pol) (c : Array Value) (n : ByteArray) (w : World) (hk : k28.K w p c.toList) (hn : p.f7.length + p.f8.length ≤ 16777215) :
    Calls Tryd.prog 46 #[.agg c, .string n] w fun e w' => Below w.heap.size w w' ∧ ((memB p.f3 n = false ∧ e = .returned (.tuple #[sideNil, .bool false])) ∨ ∃ m, memB p.f3 n = true ∧ e = .returned (.tuple #[sideV n 0 m, .bool true]) ∧ SetOf w' m (upO p n) ∧ w.heap.size ≤ m) := by
  obtain ⟨A0, c0, A1, c1, A2, c2, A3, c3, A4, c4, A5, c5, A6, c6, A7, c7, A8, c8, A9, c9, A10, c10, e_, l0, g0, l1, g1, l2, g2, l3, g3, l4, g4, l5, g5, l6, g6, l7, g7, l8, g8, l9, g9, l10, g10⟩ := k28_open hk
  obtain rfl : c = #[.slice A0 p.f0.length c0, .slice A1 p.f1.length c1, .slice A2 p.f2.length c2, .slice A3 p.f3.length c3, .slice A4 p.f4.length c4, .slice A5 p.f5.length c5, .slice A6 p.f6.length c6, .slice A7 p.f7.length c7, .slice A8 p.f8.length c8, .slice A9 p.f9.length c9, .slice A10 p.f10.length c10] := by cases c; simpa using e_
  clear e_
  have H3 := Lib.hid g3
  have H7 := Lib.hid g7
  have H8 := Lib.hid g8
  clear hk g0 g1 g2 g3 g4 g5 g6 g7 g8 g9 g10 l0 l1 l2 l4 l5 l6 l9 l10
  obtain ⟨W1, hW1⟩ : ∃ W1, W1 = (w.alloc (Obj.cells #[Value.slice A0 p.f0.length c0, Value.slice A1 p.f1.length c1, Value.slice A2 p.f2.length c2, Value.slice A3 p.f3.length c3, Value.slice A4 p.f4.length c4, Value.slice A5 p.f5.length c5, Value.slice A6 p.f6.length c6, Value.slice A7 p.f7.length c7, Value.slice A8 p.f8.length c8, Value.slice A9 p.f9.length c9, Value.slice A10 p.f10.length c10] 28)).alloc (Obj.cells #[Value.string ⟨#[]⟩, Value.float .f64 0, Value.map none] 74) := ⟨_, rfl⟩
  have hp : W1.heap[w.heap.size]? = some (.cells #[Value.slice A0 p.f0.length c0, Value.slice A1 p.f1.length c1, Value.slice A2 p.f2.length c2, Value.slice A3 p.f3.length c3, Value.slice A4 p.f4.length c4, Value.slice A5 p.f5.length c5, Value.slice A6 p.f6.length c6, Value.slice A7 p.f7.length c7, Value.slice A8 p.f8.length c8, Value.slice A9 p.f9.length c9, Value.slice A10 p.f10.length c10] 28 (0, 0)) := by rw [hW1]; exact (heap_old _ _ (by simp)).trans (heap_new _ _)
  have hr : W1.heap[w.heap.size + 1]? = some (.cells #[Value.string ⟨#[]⟩, Value.float .f64 0, Value.map none] 74 (0, 0)) := by
    rw [hW1]
    have := heap_new (w.alloc (Obj.cells #[Value.slice A0 p.f0.length c0, Value.slice A1 p.f1.length c1, Value.slice A2 p.f2.length c2, Value.slice A3 p.f3.length c3, Value.slice A4 p.f4.length c4, Value.slice A5 p.f5.length c5, Value.slice A6 p.f6.length c6, Value.slice A7 p.f7.length c7, Value.slice A8 p.f8.length c8, Value.slice A9 p.f9.length c9, Value.slice A10 p.f10.length c10] 28)) (Obj.cells #[Value.string ⟨#[]⟩, Value.float .f64 0, Value.map none] 74)
    rwa [size_new] at this
  have hb : Below w.heap.size w W1 := by rw [hW1]; exact ((Below.refl _ w).alloc (Nat.le_refl _) _).alloc (by simp) _
  have HP := Lib.hid hp
  have HR := Lib.hid hr
  have HB := Lib.hid hb
  have HW1 := Lib.hid hW1
  clear hW1 hp hr hb
  go_enter Tryd.func46, Tryd.ntmps46
  go_wp2_with fail
  rw [← HW1.out]
  refine (contains_calls p.f3 n A3 c3 W1 (Kd.C_below H3.out HB.out) l3).mono ?_
  rintro e w2 ⟨rfl, nd, rfl⟩
  have hb2 : Below W1.heap.size W1 (W1.drewN nd) := pw_below_drewN (Below.refl _ _) nd
  have hp2 := (hb2.block _ (lt_of_get HP.out)).trans HP.out
  have q7 := (blk_cell hp2 7).trans (Eq.refl (some (Value.slice A7 p.f7.length c7)))
  have q8 := (blk_cell hp2 8).trans (Eq.refl (some (Value.slice A8 p.f8.length c8)))
  have HR2 := Lib.hid ((hb2.block _ (lt_of_get HR.out)).trans HR.out)
  have HB2 := Lib.hid hb2
  clear hb2 hp2
  obtain ⟨W2, hW2⟩ : ∃ W2, W2 = W1.drewN nd := ⟨_, rfl⟩
  rw [← hW2] at q7 q8 HR2 HB2 ⊢
  clear hW2
  cases hm : memB p.f3 n with
  | false =>
    go_wp2_with ((with_reducible refine gate_ (.store 74 (.tmp 4) (.tmp 11)) rfl ?_); refine bstore (t := 74) (p := 4) (v := .tmp 11) rfl rfl rfl (w.heap.size + 1) _ #[Value.string ⟨#[]⟩, Value.float .f64 0, Value.map none] sideNil rfl rfl rfl HR2.out size74 rfl (by simp [Value.oneCell']) ?_; intro w5 hb5 hs5 hz5 hB5; have HB5 := Lib.hid hb5; have HBB5 := Lib.hid hB5; clear hb5 hs5 hz5 hB5)
    refine bodyPost_ret (results_side rfl _ _ (w.heap.size + 1) _ rfl HB5.out rfl) rfl ?_
    exact ⟨(HB.out.trans (HB2.out.mono HB.out.size)).trans (HBB5.out _ (by omega)), .inl ⟨hm, rfl⟩⟩
  | true =>
    go_wp2_with fail
    refine (stand_calls n p.f7 p.f8 A7 A8 c7 c8 W2 (Kd.C_below H7.out (HB.out.trans (HB2.out.mono HB.out.size))) (Kd.C_below H8.out (HB.out.trans (HB2.out.mono HB.out.size))) l7 l8 hn).mono ?_
    rintro e W3 ⟨m, L, rfl, hS, hL, hnd, hm', hB3⟩
    have HS := Lib.hid hS
    have HL := Lib.hid (up_of hL hnd)
    have HB3 := Lib.hid (HB.out.trans ((HB2.out.trans (hB3.mono HB2.out.size)).mono HB.out.size))
    have HR3 := Lib.hid ((hB3.block _ (lt_of_get HR2.out)).trans HR2.out)
    have HM := Lib.hid hm'
    clear hS hL hnd hm' hB3 q7 q8
    go_wp2_with ((with_reducible refine gate_ (.store 74 (.tmp 4) (.tmp 17)) rfl ?_); refine bstore (t := 74) (p := 4) (v := .tmp 17) rfl rfl rfl (w.heap.size + 1) _ #[Value.string n, Value.float .f64 0, Value.map (some m)] (sideV n 0 m) rfl rfl rfl HR3.out size74 rfl (by simp [Value.oneCell']) ?_; intro w5 hb5 hs5 hz5 hB5; have HB5 := Lib.hid hb5; have HBB5 := Lib.hid hB5; have HS5 := Lib.hid hs5; clear hb5 hs5 hz5 hB5)
    refine bodyPost_ret (results_side rfl _ _ (w.heap.size + 1) _ rfl HB5.out rfl) rfl ?_
    refine ⟨HB3.out.trans (HBB5.out _ (by omega)), .inr ⟨m, hm, rfl, ?_, ?_⟩⟩
    · have h1 : m ≠ w.heap.size + 1 := by have := HM.out; have := lt_of_get HR2.out; omega
      unfold upO
      rw [← HL.out]
      exact HS.out.move (HS5.out m h1)
    · have := HM.out; have := HB2.out.size; have := HB.out.size; omega
end Go.Proofs.YteefneemmdfncaaDoor.M
namespace Go.Proofs.YteefneemmdfncaaDoor.M
open Go.RowKit Go.Proofs.YteefneemmdfncaaDoorW.Raw Go.Proofs.YteefneemmdfncaaDoorW.PrintWords Go.Proofs.YteefneemmdfncaaDoor.F
set_option linter.unusedVariables false
attribute [local go_sem] run_store_float
theorem has_run {w : World} {m : Nat} {L : List ByteArray} (h : SetOf w m L) (x : ByteArray) : (Instr.lookup 72 (.map (some m)) (.string x) true).run Tryd.prog w = .ok (.tuple #[unitV, .bool (memB L x)]) w := run_seen h x _ memB_iff
set_option maxRecDepth 100000 in
theorem has_calls (nm x : ByteArray) (t m : Nat) (L : List ByteArray) (w : World) (h : SetOf w m L) :
    Calls Tryd.prog 96 #[sideV nm t m, .string x] w fun e w' => e = .returned (.bool (memB L x)) ∧ Below w.heap.size w w' := by
  obtain ⟨b, hb⟩ : ∃ b, b = memB L x := ⟨_, rfl⟩
  have hL := has_run (IsRaw.below h ((Below.refl w.heap.size w).alloc (Nat.le_refl _) (Obj.cells #[Value.string nm, Value.float .f64 t, Value.map (some m)] 74))) x
  rw [← hb] at hL ⊢
  clear hb h
  go_enter Tryd.func96, Tryd.ntmps96
  go_wp2
  go_ret
  exact ⟨rfl, ((Below.refl _ _).alloc (Nat.le_refl _) _).alloc (by simp) _⟩
theorem passes_f (r : Rule) (tr : Nat) : mean_Passes.f r.f0 r.f1 r.f2 r.f3 r.f4 r.f5 tr = some (passB r.f4 r.f5 tr) := by
  unfold mean_Passes.f passB
  split
  · rfl
  · split
    · rfl
    · split <;> rfl
theorem passes_calls (r : Rule) (c : Array Value) (tr : Nat) (w : World) (hk : k48.K w r c.toList) :
    Calls Tryd.prog 97 #[.agg c, .float .f64 tr] w fun e w' => e = .returned (.bool (passB r.f4 r.f5 tr)) ∧ Below w.heap.size w w' := by
  obtain ⟨A3, c3, e, l3, g3⟩ := k48_open hk
  obtain rfl : c = #[.bool r.f0, .string r.f1, .string r.f2, .slice A3 r.f3.length c3, .int .i8 r.f4, .float .f64 r.f5] := by cases c; simpa using e
  exact mean_Passes.calls r.f0 r.f1 r.f2 A3 c3 r.f3 r.f4 r.f5 tr _ w g3 l3 (passes_f r tr)
set_option maxRecDepth 100000 in
set_option maxHeartbeats 1000000 in
theorem speaks_calls (r : Rule) (c : Array Value) (n1 n2 : ByteArray) (t1 t2 m1 m2 : Nat) (us uo : List ByteArray) (w : World) (hk : k48.K w r c.toList) (h1 : SetOf w m1 us) (h2 : SetOf w m2 uo) :
    Calls Tryd.prog 79 #[.agg c, sideV n1 t1 m1, sideV n2 t2 m2] w fun e w' => e = .returned (.bool (speakB r t1 us uo)) ∧ Below w.heap.size w w' := by
  obtain ⟨A3, c3, e, l3, g3⟩ := k48_open hk
  obtain rfl : c = #[.bool r.f0, .string r.f1, .string r.f2, .slice A3 r.f3.length c3, .int .i8 r.f4, .float .f64 r.f5] := by cases c; simpa using e
  obtain ⟨W1, hW1⟩ : ∃ W1, W1 = ((w.alloc (Obj.cells #[.bool r.f0, .string r.f1, .string r.f2, .slice A3 r.f3.length c3, .int .i8 r.f4, .float .f64 r.f5] 48)).alloc (Obj.cells #[Value.string n1, Value.float .f64 t1, Value.map (some m1)] 74)).alloc (Obj.cells #[Value.string n2, Value.float .f64 t2, Value.map (some m2)] 74) := ⟨_, rfl⟩
  have hb : Below w.heap.size w W1 := by rw [hW1]; exact (((Below.refl _ w).alloc (Nat.le_refl _) _).alloc (by simp) _).alloc (by simp <;> omega) _
  have r0 : W1.heap[w.heap.size]? = some (.cells #[.bool r.f0, .string r.f1, .string r.f2, .slice A3 r.f3.length c3, .int .i8 r.f4, .float .f64 r.f5] 48 (0, 0)) := by rw [hW1]; exact (heap_old _ _ (by simp <;> omega)).trans ((heap_old _ _ (by simp)).trans (heap_new _ _))
  have r1 : W1.heap[w.heap.size + 1]? = some (.cells #[Value.string n1, Value.float .f64 t1, Value.map (some m1)] 74 (0, 0)) := by
    rw [hW1]
    refine (heap_old _ _ (by simp)).trans ?_
    have := heap_new (w.alloc (Obj.cells #[.bool r.f0, .string r.f1, .string r.f2, .slice A3 r.f3.length c3, .int .i8 r.f4, .float .f64 r.f5] 48)) (Obj.cells #[Value.string n1, Value.float .f64 t1, Value.map (some m1)] 74)
    rwa [size_new] at this
  have r2 : W1.heap[w.heap.size + 1 + 1]? = some (.cells #[Value.string n2, Value.float .f64 t2, Value.map (some m2)] 74 (0, 0)) := by
    rw [hW1]
    have := heap_new ((w.alloc (Obj.cells #[.bool r.f0, .string r.f1, .string r.f2, .slice A3 r.f3.length c3, .int .i8 r.f4, .float .f64 r.f5] 48)).alloc (Obj.cells #[Value.string n1, Value.float .f64 t1, Value.map (some m1)] 74)) (Obj.cells #[Value.string n2, Value.float .f64 t2, Value.map (some m2)] 74)
    rwa [size_new, size_new] at this
  have HW1 := Lib.hid hW1
  have HB := Lib.hid hb
  have R0 := Lib.hid r0
  have R1 := Lib.hid r1
  have R2 := Lib.hid r2
  have S1 := Lib.hid (IsRaw.below h1 hb)
  have S2 := Lib.hid (IsRaw.below h2 hb)
  have HK := Lib.hid (k48.K_below hb hk)
  have HL3 := Lib.hid l3
  clear e hW1 hb r0 r1 r2 h1 h2 hk l3 g3
  go_enter Tryd.func79, Tryd.ntmps79
  go_wp2_with fail
  rw [← HW1.out]
  refine (has_calls n1 r.f1 t1 m1 us W1 S1.out).mono ?_
  rintro e w2 ⟨rfl, hb2⟩
  have z0 := (hb2.block _ (lt_of_get R0.out)).trans R0.out
  have z1 := (hb2.block _ (lt_of_get R1.out)).trans R1.out
  have z2 := (hb2.block _ (lt_of_get R2.out)).trans R2.out
  have HB2 := Lib.hid hb2
  have Z0 := Lib.hid z0
  have Z1 := Lib.hid z1
  have c00 := (blk_cell z0 0).trans (Eq.refl (some (Value.bool r.f0)))
  have c01 := (blk_cell z0 1).trans (Eq.refl (some (Value.string r.f1)))
  have c02 := (blk_cell z0 2).trans (Eq.refl (some (Value.string r.f2)))
  have c03 := (blk_cell z0 3).trans (Eq.refl (some (Value.slice A3 r.f3.length c3)))
  have c04 := (blk_cell z0 4).trans (Eq.refl (some (Value.int .i8 r.f4)))
  have c05 := (blk_cell z0 5).trans (Eq.refl (some (Value.float .f64 r.f5)))
  have c11 := (blk_cell z1 1).trans (Eq.refl (some (Value.float .f64 t1)))
  have c20 := (blk_cell z2 0).trans (Eq.refl (some (Value.string n2)))
  have c21 := (blk_cell z2 1).trans (Eq.refl (some (Value.float .f64 t2)))
  have c22 := (blk_cell z2 2).trans (Eq.refl (some (Value.map (some m2))))
  clear hb2 z0 z1 z2
  cases hq1 : memB us r.f1 with
  | false =>
    go_wp2
    go_ret
    exact ⟨by simp [speakB, hq1], HB.out.trans (HB2.out.mono HB.out.size)⟩
  | true =>
    go_wp2_with fail
    refine (has_calls n2 r.f2 t2 m2 uo w2 (IsRaw.below S2.out HB2.out)).mono ?_
    rintro e w3 ⟨rfl, hb3⟩
    have z0 := (hb3.block _ (lt_of_get Z0.out)).trans Z0.out
    have z1 := (hb3.block _ (lt_of_get Z1.out)).trans Z1.out
    have HB3 := Lib.hid hb3
    have c00 := (blk_cell z0 0).trans (Eq.refl (some (Value.bool r.f0)))
    have c01 := (blk_cell z0 1).trans (Eq.refl (some (Value.string r.f1)))
    have c02 := (blk_cell z0 2).trans (Eq.refl (some (Value.string r.f2)))
    have c03 := (blk_cell z0 3).trans (Eq.refl (some (Value.slice A3 r.f3.length c3)))
    have c04 := (blk_cell z0 4).trans (Eq.refl (some (Value.int .i8 r.f4)))
    have c05 := (blk_cell z0 5).trans (Eq.refl (some (Value.float .f64 r.f5)))
    have c11 := (blk_cell z1 1).trans (Eq.refl (some (Value.float .f64 t1)))
    clear hb3 z0 z1
    cases hq2 : memB uo r.f2 with
    | false =>
      go_wp2
      go_ret
      exact ⟨by simp [speakB, hq1, hq2], (HB.out.trans (HB2.out.mono HB.out.size)).trans (HB3.out.mono (HB.out.trans (HB2.out.mono HB.out.size)).size)⟩
    | true =>
      go_wp2_with fail
      refine (passes_calls r _ t1 w3 (k48.K_below (HB2.out.trans (HB3.out.mono HB2.out.size)) HK.out)).mono ?_
      rintro e w4 ⟨rfl, hb4⟩
      have HB4 := Lib.hid hb4
      clear hb4
      go_wp2
      go_ret
      exact ⟨by simp [speakB, hq1, hq2], ((HB.out.trans (HB2.out.mono HB.out.size)).trans (HB3.out.mono (HB.out.trans (HB2.out.mono HB.out.size)).size)).trans (HB4.out.mono ((HB.out.trans (HB2.out.mono HB.out.size)).trans (HB3.out.mono (HB.out.trans (HB2.out.mono HB.out.size)).size)).size)⟩
end Go.Proofs.YteefneemmdfncaaDoor.M
namespace Go.Proofs.YteefneemmdfncaaDoor.M
open Go.RowKit Go.Proofs.YteefneemmdfncaaDoorW.Raw Go.Proofs.YteefneemmdfncaaDoorW.PrintWords Go.Proofs.YteefneemmdfncaaDoor.F
set_option linter.unusedVariables false
attribute [local go_sem] run_store_float
theorem FK_old {α : Type} {d : Kd α} (hd : Kd.Heap d) {w W : World} {x : α} {c : List Value} (h : d.K w x c) (hb : Below w.heap.size w W) : Kd.FK d W (fun k => k < w.heap.size) x c :=
  fun W' hW => hd.K (fun k hk => (hW k hk (Nat.lt_of_lt_of_le hk hb.size)).trans (hb.block k hk)) h
theorem N_read {α : Type} {d : Kd α} {e base : Nat} {ok : Nat → Prop} {w : World} {v : Value} {xs : List α} (h : Kd.N d e w base ok v xs) : ∃ A c, v = .slice A xs.length c ∧ xs.length ≤ c ∧ d.C w A xs.length xs := by
  obtain ⟨A, c, e, hl, hf⟩ := Kd.N_V (base' := 0) h
  exact ⟨A, c, e, hl, Kd.F_now hf⟩
set_option maxRecDepth 100000 in
set_option maxHeartbeats 2000000 in
theorem about_from (p : Pol) (c : Array Value) (n1 n2 : ByteArray) (t1 t2 m1 m2 : Nat) (us uo : List ByteArray) (w w0 : World) (hk : k28.K w0 p c.toList) (h0 : Below w0.heap.size w0 w) (h1 : SetOf w m1 us) (h2 : SetOf w m2 uo) (hn : p.f9.length ≤ 16777216) :
    Calls Tryd.prog 49 #[.agg c, sideV n1 t1 m1, sideV n2 t2 m2] w fun e w' => ∃ v, e = .returned v ∧ Kd.N k48 48 w' w.heap.size (fun k => k < w0.heap.size ∨ w.heap.size ≤ k) v (aboutL p t1 us uo) ∧ Below w.heap.size w w' := by
  obtain ⟨A0, c0, A1, c1, A2, c2, A3, c3, A4, c4, A5, c5, A6, c6, A7, c7, A8, c8, A9, c9, A10, c10, e_, l0, g0, l1, g1, l2, g2, l3, g3, l4, g4, l5, g5, l6, g6, l7, g7, l8, g8, l9, g9, l10, g10⟩ := k28_open hk
  obtain rfl : c = #[.slice A0 p.f0.length c0, .slice A1 p.f1.length c1, .slice A2 p.f2.length c2, .slice A3 p.f3.length c3, .slice A4 p.f4.length c4, .slice A5 p.f5.length c5, .slice A6 p.f6.length c6, .slice A7 p.f7.length c7, .slice A8 p.f8.length c8, .slice A9 p.f9.length c9, .slice A10 p.f10.length c10] := by cases c; simpa using e_
  clear e_
  have H9 := Lib.hid g9
  have HW0 := Lib.hid h0
  clear h0
  clear hk g0 g1 g2 g3 g4 g5 g6 g7 g8 g9 g10 l0 l1 l2 l3 l4 l5 l6 l7 l8 l9 l10
  obtain ⟨W1, hW1⟩ : ∃ W1, W1 = ((w.alloc (Obj.cells #[Value.slice A0 p.f0.length c0, Value.slice A1 p.f1.length c1, Value.slice A2 p.f2.length c2, Value.slice A3 p.f3.length c3, Value.slice A4 p.f4.length c4, Value.slice A5 p.f5.length c5, Value.slice A6 p.f6.length c6, Value.slice A7 p.f7.length c7, Value.slice A8 p.f8.length c8, Value.slice A9 p.f9.length c9, Value.slice A10 p.f10.length c10] 28)).alloc (Obj.cells #[Value.string n1, Value.float .f64 t1, Value.map (some m1)] 74)).alloc (Obj.cells #[Value.string n2, Value.float .f64 t2, Value.map (some m2)] 74) := ⟨_, rfl⟩
  have hb : Below w.heap.size w W1 := by rw [hW1]; exact (((Below.refl _ w).alloc (Nat.le_refl _) _).alloc (by simp) _).alloc (by simp <;> omega) _
  have r1 : W1.heap[w.heap.size + 1]? = some (.cells #[Value.string n1, Value.float .f64 t1, Value.map (some m1)] 74 (0, 0)) := by
    rw [hW1]
    refine (heap_old _ _ (by simp)).trans ?_
    have := heap_new (w.alloc (Obj.cells #[Value.slice A0 p.f0.length c0, Value.slice A1 p.f1.length c1, Value.slice A2 p.f2.length c2, Value.slice A3 p.f3.length c3, Value.slice A4 p.f4.length c4, Value.slice A5 p.f5.length c5, Value.slice A6 p.f6.length c6, Value.slice A7 p.f7.length c7, Value.slice A8 p.f8.length c8, Value.slice A9 p.f9.length c9, Value.slice A10 p.f10.length c10] 28)) (Obj.cells #[Value.string n1, Value.float .f64 t1, Value.map (some m1)] 74)
    rwa [size_new] at this
  have r2 : W1.heap[w.heap.size + 1 + 1]? = some (.cells #[Value.string n2, Value.float .f64 t2, Value.map (some m2)] 74 (0, 0)) := by
    rw [hW1]
    have := heap_new ((w.alloc (Obj.cells #[Value.slice A0 p.f0.length c0, Value.slice A1 p.f1.length c1, Value.slice A2 p.f2.length c2, Value.slice A3 p.f3.length c3, Value.slice A4 p.f4.length c4, Value.slice A5 p.f5.length c5, Value.slice A6 p.f6.length c6, Value.slice A7 p.f7.length c7, Value.slice A8 p.f8.length c8, Value.slice A9 p.f9.length c9, Value.slice A10 p.f10.length c10] 28)).alloc (Obj.cells #[Value.string n1, Value.float .f64 t1, Value.map (some m1)] 74)) (Obj.cells #[Value.string n2, Value.float .f64 t2, Value.map (some m2)] 74)
    rwa [size_new, size_new] at this
  have HW1 := Lib.hid hW1
  have HB := Lib.hid hb
  have R1 := Lib.hid r1
  have R2 := Lib.hid r2
  have S1 := Lib.hid (IsRaw.below h1 hb)
  have S2 := Lib.hid (IsRaw.below h2 hb)
  clear hW1 hb r1 r2 h1 h2
  go_enter Tryd.func49, Tryd.ntmps49
  go_wp2_with fail
  rw [← HW1.out]
  obtain ⟨F, hF⟩ : ∃ F : Nat → List Rule, F = fun k => (p.f9.take k).filter fun r => speakB r t1 us uo := ⟨_, rfl⟩
  have HF := Lib.hid hF
  clear hF
  go_loopw [7, 13] (fun v i wr => ∃ (k : Nat) (A' : Option Addr) (c' : Nat), k ≤ p.f9.length ∧ i = .int .i64 (k : Nat) ∧ v = .slice A' (F k).length c' ∧ Kd.N k48 48 wr W1.heap.size (fun k => k < w0.heap.size ∨ w.heap.size ≤ k) (.slice A' (F k).length c') (F k) ∧ Below W1.heap.size W1 wr) (fun _ i _ => p.f9.length - (intOf i).toNat)
  case atStart =>
    have h0 : F 0 = [] := by rw [HF.out]; rfl
    exact ⟨0, none, 0, Nat.zero_le _, rfl, by rw [h0]; rfl, by rw [h0]; exact Kd.N_nil _ _ _ _ _, Below.refl _ _⟩
  case round =>
    obtain ⟨k, A', c', hk, rfl, rfl, hN, hB⟩ := hrel
    obtain ⟨nf, hnf⟩ : ∃ nf, nf = (F k).length := ⟨_, rfl⟩
    rw [← hnf] at hN ⊢
    have hfl : nf ≤ k := by
      rw [hnf, HF.out]
      exact Nat.le_trans (List.length_filter_le _ _) (by rw [List.length_take]; omega)
    by_cases hlt : k < p.f9.length
    · obtain ⟨ad, A3', c3', rfl, q0, q1, q2, q3, q4, q5, hl3, hc3⟩ := at_T48 H9.out (k : Int) (by omega) (by omega)
      obtain ⟨r, hr⟩ : ∃ r, r = rd_T48 p.f9 (k : Int) := ⟨_, rfl⟩
      rw [← hr] at q0 q1 q2 q3 q4 q5 hl3 hc3
      rw [Int.toNat_natCast] at q0 q1 q2 q3 q4 q5
      have q0 := pw_cell_below (HW0.out.trans ((HB.out.trans (hB.mono HB.out.size)).mono HW0.out.size)) q0
      have q1 := pw_cell_below (HW0.out.trans ((HB.out.trans (hB.mono HB.out.size)).mono HW0.out.size)) q1
      have q2 := pw_cell_below (HW0.out.trans ((HB.out.trans (hB.mono HB.out.size)).mono HW0.out.size)) q2
      have q3 := pw_cell_below (HW0.out.trans ((HB.out.trans (hB.mono HB.out.size)).mono HW0.out.size)) q3
      have q4 := pw_cell_below (HW0.out.trans ((HB.out.trans (hB.mono HB.out.size)).mono HW0.out.size)) q4
      have q5 := pw_cell_below (HW0.out.trans ((HB.out.trans (hB.mono HB.out.size)).mono HW0.out.size)) q5
      have hkr : p.f9[k]? = some r := by rw [hr]; simp [rd_T48, List.getD_eq_getElem?_getD, hlt]
      have hFk : F (k + 1) = F k ++ if speakB r t1 us uo = true then [r] else [] := by
        rw [HF.out]
        show (p.f9.take (k + 1)).filter _ = (p.f9.take k).filter _ ++ _
        rw [List.take_add_one, hkr, List.filter_append]
        congr 1
        cases hq : speakB r t1 us uo <;> simp [hq]
      have HFK := Lib.hid hFk
      have HN := Lib.hid hN
      have HB' := Lib.hid hB
      have HC3 := Lib.hid hc3
      have HL3 := Lib.hid hl3
      have HNF := Lib.hid hnf
      clear hr hkr hFk hN hB hc3 hl3 hnf
      obtain ⟨rc, hrc⟩ : ∃ rc : List Value, rc = [Value.bool r.f0, Value.string r.f1, Value.string r.f2, Value.slice A3' r.f3.length c3', Value.int .i8 r.f4, Value.float .f64 r.f5] := ⟨_, rfl⟩
      obtain ⟨W2, hW2⟩ : ∃ W2, W2 = wr.alloc (Obj.cells #[Value.bool r.f0, Value.string r.f1, Value.string r.f2, Value.slice A3' r.f3.length c3', Value.int .i8 r.f4, Value.float .f64 r.f5] 48) := ⟨_, rfl⟩
      have hb2 : Below wr.heap.size wr W2 := by rw [hW2]; exact (Below.refl _ _).alloc (Nat.le_refl _) _
      have hbx := HB'.out.trans (hb2.mono HB'.out.size)
      have hr2 : W2.heap[wr.heap.size]? = some (.cells #[Value.bool r.f0, Value.string r.f1, Value.string r.f2, Value.slice A3' r.f3.length c3', Value.int .i8 r.f4, Value.float .f64 r.f5] 48 (0, 0)) := by rw [hW2]; exact heap_new _ _
      have y1 := (hbx.block _ (lt_of_get R1.out)).trans R1.out
      have y2 := (hbx.block _ (lt_of_get R2.out)).trans R2.out
      have e10 := (blk_cell y1 0).trans (Eq.refl (some (Value.string n1)))
      have e11 := (blk_cell y1 1).trans (Eq.refl (some (Value.float .f64 t1)))
      have e12 := (blk_cell y1 2).trans (Eq.refl (some (Value.map (some m1))))
      have e20 := (blk_cell y2 0).trans (Eq.refl (some (Value.string n2)))
      have e21 := (blk_cell y2 1).trans (Eq.refl (some (Value.float .f64 t2)))
      have e22 := (blk_cell y2 2).trans (Eq.refl (some (Value.map (some m2))))
      have HB2 := Lib.hid hb2
      have HBX := Lib.hid hbx
      have HR2 := Lib.hid hr2
      have HW2 := Lib.hid hW2
      have HRC := Lib.hid hrc
      rw [hW2] at e10 e11 e12 e20 e21 e22
      clear hb2 hbx hr2 y1 y2 hrc
      go_wp2_with fail
      rw [← hW2]
      clear hW2 e10 e11 e12 e20 e21 e22
      have hKr : k48.K w0 r [Value.bool r.f0, Value.string r.f1, Value.string r.f2, Value.slice A3' r.f3.length c3', Value.int .i8 r.f4, Value.float .f64 r.f5] := k48_mk w0 r HL3.out HC3.out
      have HKR := Lib.hid hKr
      clear hKr
      refine (speaks_calls r _ n1 n2 t1 t2 m1 m2 us uo W2 (k48.K_below (HW0.out.trans ((HB.out.trans (HBX.out.mono HB.out.size)).mono HW0.out.size)) HKR.out) (IsRaw.below S1.out HBX.out) (IsRaw.below S2.out HBX.out)).mono ?_
      rintro e W3 ⟨rfl, hb3⟩
      have y0 := (hb3.block _ (lt_of_get HR2.out)).trans HR2.out
      have f0 := (blk_cell y0 0).trans (Eq.refl (some (Value.bool r.f0)))
      have f1 := (blk_cell y0 1).trans (Eq.refl (some (Value.string r.f1)))
      have f2 := (blk_cell y0 2).trans (Eq.refl (some (Value.string r.f2)))
      have f3 := (blk_cell y0 3).trans (Eq.refl (some (Value.slice A3' r.f3.length c3')))
      have f4 := (blk_cell y0 4).trans (Eq.refl (some (Value.int .i8 r.f4)))
      have f5 := (blk_cell y0 5).trans (Eq.refl (some (Value.float .f64 r.f5)))
      have HB3 := Lib.hid (HB2.out.trans (hb3.mono HB2.out.size))
      clear hb3 y0
      cases hq : speakB r t1 us uo with
      | false =>
        have HQ := Lib.hid hq
        clear hq
        go_wp2
        go_roundw
        case rel =>
          have e1 : F (k + 1) = F k := by rw [HFK.out, HQ.out]; simp
          exact ⟨k + 1, A', c', hlt, by go_num, by rw [e1, ← HNF.out], by rw [e1, ← HNF.out]; exact Kd.N_below HN.out HB3.out, HB'.out.trans (HB3.out.mono HB'.out.size)⟩
        case measure => simp [intOf]; omega
      | true =>
        have HQ := Lib.hid hq
        clear hq
        go_wp2_with ((with_reducible refine gate_builtin (b := .append) (xs := #[.tmp 21, .tmp 23]) rfl ?_); at_builtin; refine Kd.N_append k48 (w0 := W1) W1.heap.size rfl (.tmp 21) (.tmp 23) 25 48 (.agg #[(.bool false), (.string ⟨#[]⟩), (.string ⟨#[]⟩), (.slice none 0 0), (.int .i8 0), (.float .f64 0)]) 80 rfl Tryd.underlying25 info48 rfl (by decide) (by omega) (.slice A' nf c') (F k) r [Value.bool r.f0, Value.string r.f1, Value.string r.f2, Value.slice A3' r.f3.length c3', Value.int .i8 r.f4, Value.float .f64 r.f5] (fun k => k < w0.heap.size ∨ w.heap.size ≤ k) (fun j => j < w0.heap.size) rfl rfl ?hp ?hok (fun k hk => .inr (Nat.le_trans (HB.out.trans ((HB'.out.trans (HB3.out.mono HB'.out.size)).mono HB.out.size)).size hk)) (Kd.N_below HN.out HB3.out) (HB'.out.trans (HB3.out.mono HB'.out.size)) (Nat.le_trans HB'.out.size HB3.out.size) (by rw [← HNF.out]; omega) ?_; (case hp => exact FK_old k48_heap HKR.out (HW0.out.trans ((HB.out.trans ((HB'.out.trans (HB3.out.mono HB'.out.size)).mono HB.out.size)).mono HW0.out.size))); (case hok => exact fun j hj => ⟨.inl hj, fun e => by have := Kd.N_base HN.out j e.symm; have := HW0.out.size; have := HB.out.size; omega⟩); intro v1 w4 hN1 hb4 hg4 hat4; obtain ⟨A5, c5', hv⟩ := Kd.N_slice hN1; subst hv; have HN1 := Lib.hid hN1; have HB4 := Lib.hid hb4; clear hN1 hb4 hg4 hat4)
        go_roundw
        case rel =>
          have e1 : F (k + 1) = F k ++ [r] := by rw [HFK.out, HQ.out]; simp
          exact ⟨k + 1, A5, c5', hlt, by go_num, by rw [e1, List.length_append]; rfl, by rw [e1]; exact HN1.out, HB4.out⟩
        case measure => simp [intOf]; omega
    · obtain rfl : k = p.f9.length := by omega
      have HN := Lib.hid hN
      have HB' := Lib.hid hB
      have HNF := Lib.hid hnf
      clear hN hB hnf
      go_wp2
      go_ret
      have e1 : F p.f9.length = aboutL p t1 us uo := by rw [HF.out]; show (p.f9.take p.f9.length).filter _ = _; rw [List.take_length]; rfl
      refine ⟨_, rfl, ?_, HB.out.trans (HB'.out.mono HB.out.size)⟩
      rw [← e1]
      exact Kd.N_lower HN.out HB.out.size
theorem about_calls (p : Pol) (c : Array Value) (n1 n2 : ByteArray) (t1 t2 m1 m2 : Nat) (us uo : List ByteArray) (w : World) (hk : k28.K w p c.toList) (h1 : SetOf w m1 us) (h2 : SetOf w m2 uo) (hn : p.f9.length ≤ 16777216) :
    Calls Tryd.prog 49 #[.agg c, sideV n1 t1 m1, sideV n2 t2 m2] w fun e w' => ∃ v, e = .returned v ∧ Kd.N k48 48 w' w.heap.size (fun _ => True) v (aboutL p t1 us uo) ∧ Below w.heap.size w w' :=
  (about_from p c n1 n2 t1 t2 m1 m2 us uo w w hk (Below.refl _ _) h1 h2 hn).mono fun e w' ⟨v, h1, h2, h3⟩ => ⟨v, h1, Kd.N_mono h2 (fun _ _ => trivial), h3⟩
end Go.Proofs.YteefneemmdfncaaDoor.M
