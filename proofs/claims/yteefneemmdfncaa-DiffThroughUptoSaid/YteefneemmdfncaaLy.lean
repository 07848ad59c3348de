import Derived.Test.YteefneemmdfncaaBy
import Derived.Test.YteefneemmdfncaaDa
import Derived.Maps.AppendAt
/- diff.List and diff.Same, walked: what they answer. Conditions: the policies read as they must and are small enough. -/
namespace Go.Proofs.Yteefneemmdfncaa.M
open Go.RowKit Go.Shelf Go.Proofs.YteefneemmdfncaaW.Raw Go.Proofs.YteefneemmdfncaaW.PrintWords Go.Proofs.Yteefneemmdfncaa.F
set_option linter.unusedVariables false
set_option linter.unusedSimpArgs false
attribute [local go_sem] Oper.semAt_some
def mkCh (x : Tri × Bool) : Chg := ⟨x.1, x.2⟩
/-- The changes from one policy to another. -/
def chL (p q : Pol) : List Chg := (changeL (relL p) (relL q)).map mkCh
def cells4 (x : Tri × Bool) : List Value := [.string x.1.f0, .string x.1.f1, .string x.1.f2, .bool x.2]
def flatC : List (Tri × Bool) → List Value
  | [] => []
  | x :: l => cells4 x ++ flatC l
theorem flatC_len : ∀ l : List (Tri × Bool), (flatC l).length = l.length * 4
  | [] => rfl
  | x :: l => by rw [flatC, List.length_append, flatC_len l, List.length_cons]; simp [cells4]; omega
theorem flatC_snoc : ∀ (l : List (Tri × Bool)) (x : Tri × Bool), flatC (l ++ [x]) = flatC l ++ cells4 x
  | [], x => by simp [flatC]
  | y :: l, x => by rw [List.cons_append, flatC, flatC, flatC_snoc l x, List.append_assoc]
theorem flatC_at : ∀ (l : List (Tri × Bool)) (j : Nat) (x : Tri × Bool), l[j]? = some x → ((flatC l).drop (j * 4)).take 4 = cells4 x
  | [], _, _, h => by simp at h
  | y :: l, 0, x, h => by
    obtain rfl : y = x := by simpa using h
    simp [flatC, cells4]
  | y :: l, j + 1, x, h => by
    have e := flatC_at l j x (by simpa using h)
    rw [flatC, Nat.succ_mul, Nat.add_comm, ← List.drop_drop]
    show ((List.drop 4 (cells4 y ++ flatC l)).drop (j * 4)).take 4 = _
    rw [List.drop_left' (by simp [cells4])]
    exact e
theorem R_flat {w : World} {base : Nat} {v : Value} (l : List (Tri × Bool)) (h : w.ownsRow base 53 4 v l.length (flatC l)) : Kd.R k53 53 w base (fun _ => True) v (l.map mkCh) := by
  refine ⟨fun _ _ => trivial, flatC l, by rw [List.length_map]; exact h, by rw [flatC_len, List.length_map]; rfl, fun j p hp => ?_⟩
  rw [List.getElem?_map] at hp
  obtain ⟨x, hx, rfl⟩ := Option.map_eq_some_iff.1 hp
  have e := flatC_at l j x hx
  show k53.M w base _ (mkCh x) (((flatC l).drop (j * 4)).take 4)
  rw [e]
  exact k53_mkM _ _ _ (mkCh x)
theorem info53 : (Try.prog.info? 53).map (fun i => (i.zero, i.size, i.bytes)) = some (some (.agg #[.string ⟨#[]⟩, .string ⟨#[]⟩, .string ⟨#[]⟩, .bool false]), 4, 56) := by kernel_rfl
theorem four_new (w : World) (x : Tri × Bool) (t : TypeId) : ∀ j u, (cells4 x)[j]? = some u → (w.alloc (.cells #[.string x.1.f0, .string x.1.f1, .string x.1.f2, .bool x.2] t)).cell? ((⟨w.heap.size, 0, none⟩ : Addr).add j) = some u := by
  intro j u hj
  have hb := blk_new w (Obj.cells #[Value.string x.1.f0, .string x.1.f1, .string x.1.f2, .bool x.2] t)
  match j, hj with
  | 0, hj => cases hj; exact (blk_cell hb 0)
  | 1, hj => cases hj; exact (blk_cell hb 1)
  | 2, hj => cases hj; exact (blk_cell hb 2)
  | 3, hj => cases hj; exact (blk_cell hb 3)
theorem keepsFrom_below {B : Nat} {W W' : World} (h : Below W.heap.size W W') : KeepsFrom B W W' :=
  ⟨h.size, fun k o _ h0 _ => (h.block k (Array.getElem?_eq_some_iff.1 h0).1).trans h0⟩
theorem keepS_b {B hi : Nat} (W : World) (l : Nat) (o o' : Obj) (hl : hi ≤ l) (_ : W.heap[l]? = some o) (_ : o.isCells = false) (_ : o.isWalk = false) : keepS B hi W (W.putObj l o') :=
  fun i _ h2 => World.putObj_heap_other (by omega)
/-- A variable's box beside the row that it holds. -/
structure Lst (w : World) (bl hi : Nat) (pre : List (Tri × Bool)) (W : World) : Prop where
  ex : ∃ v, Boxed W bl 47 v ∧ W.ownsRow hi 53 4 v pre.length (flatC pre) ∧ True
  bel : Below w.heap.size w W
  sz : hi ≤ W.heap.size
theorem Lst.own {w : World} {bl hi : Nat} (hw : w.heap.size ≤ hi) : OwnFrom hi (Lst w bl hi) := fun s X Y row hs hg hr => by
  have h1 := OwnFrom.and (Own.from (holdsRow_own hi bl 47 53 4 (fun pre : List (Tri × Bool) => pre.length) (fun pre => flatC pre) (fun _ _ => True)) hi) (ownFrom_below (w₀ := w) (Nat.le_refl _) hw) s X Y row ⟨hs.ex, hs.bel⟩ hg hr
  exact ⟨h1.1, h1.2, Nat.le_trans hs.sz hg.size⟩
theorem Lst.below {w W W' : World} {bl hi : Nat} {pre : List (Tri × Bool)} (h : Lst w bl hi pre W) (hb : Below W.heap.size W W') : Lst w bl hi pre W' := by
  obtain ⟨v, hv, hr, -⟩ := h.ex
  exact ⟨⟨v, (hb.block _ hv.lt).trans hv, own_move hr (fun k hk => hb.block k (own_lt hr k hk)), trivial⟩, h.bel.trans (hb.mono h.bel.size), Nat.le_trans h.sz hb.size⟩
theorem Lst.app {w W w1 : World} {B bl hi : Nat} {pre : List (Tri × Bool)} {v v' : Value} {x : Tri × Bool} {tmp : Obj} (hw : w.heap.size ≤ bl) (hbl : bl < B) (hi1 : hi ≤ W.heap.size) (hwh : w.heap.size ≤ hi) (hv : Boxed W bl 47 v) (hr : W.ownsRow hi 53 4 v pre.length (flatC pre)) (hb : Below w.heap.size w W)
    (hown : w1.ownsRow hi 53 4 v' (pre.length + 1) (flatC pre ++ cells4 x)) (hg : (W.alloc tmp).grownBy w1 v.ownBlock) :
    Boxed w1 bl 47 v ∧ KeepsOthers W (w1.setCell ⟨bl, 0, none⟩ v') ∧ keepS B hi W (w1.setCell ⟨bl, 0, none⟩ v') ∧ Lst w bl hi (pre ++ [x]) (w1.setCell ⟨bl, 0, none⟩ v') := by
  obtain ⟨h1, h2, h3, h4, h5⟩ := hv.appended (by decide) (own_weaken hr hwh) (Nat.le_trans hwh hi1) hw (own_weaken hown hwh) hg
  have h6 : (w1.setCell ⟨bl, 0, none⟩ v').ownsRow hi 53 4 v' (pre.length + 1) (flatC pre ++ cells4 x) := hown.kept (grownBy_setCell' w1 bl v') (.inr (h1.not_row (by decide) hown).symm)
  refine ⟨h1, h4, fun i hB hlt => ?_, ⟨⟨v', h2, ?_, trivial⟩, hb.trans h5, ?_⟩⟩
  · refine (Below.heap_setCell _ _ _ _ (show i ≠ bl by omega)).trans ((hg.block i (by rw [size_new]; omega) (fun e => ?_)).trans (heap_old _ _ (by omega)))
    have := own_base hr i e.symm
    omega
  · rw [List.length_append, List.length_singleton, flatC_snoc]
    exact h6
  · exact Nat.le_trans hi1 h5.size
set_option maxRecDepth 100000 in
set_option maxHeartbeats 4000000 in
theorem list_calls (p q : Pol) (C0 D0 : Array Value) (w : World) (hp : k28.K w p C0.toList) (hq : k28.K w q D0.toList) (hnp : OkP p) (hnq : OkP q) (hcp : p.f1.length * (p.f3.length * p.f0.length) ≤ 65536) (hcq : q.f1.length * (q.f3.length * q.f0.length) ≤ 65536) (hlp : (relL p).length ≤ 65536) (hlq : (relL q).length ≤ 65536) :
    Calls Try.prog 35 #[.agg C0, .agg D0] w fun e W => ∃ v, e = .returned v ∧ Kd.R k53 53 W w.heap.size (fun _ => True) v (chL p q) ∧ Below w.heap.size w W := by
  have HP := Lib.hid hp
  have HQ := Lib.hid hq
  have HSP := Lib.hid (pol_size hp)
  have HSQ := Lib.hid (pol_size hq)
  have HLP := Lib.hid hlp
  have HLQ := Lib.hid hlq
  obtain ⟨i0, hi, hz0, hz1, hz2⟩ := info_parts info53
  have HI0 := Lib.hid hi
  have HZ0 := Lib.hid hz0
  have HZ1 := Lib.hid hz1
  have HZ2 := Lib.hid hz2
  clear hp hq hlp hlq hi hz0 hz1 hz2
  refine callsIn_wide.1 (callsIn_of_wp_marks (F := Fence.wide) (n := 5) Try.func35 rfl trivial (wpIn_wide.2 ?_) rfl)
  simp only [Try.ntmps35, List.size_toArray, List.length_cons, List.length_nil, Nat.reduceAdd, Nat.reduceSub, Array.replicate_succ, Array.replicate_zero, List.push_toArray, List.append_toArray, List.nil_append, List.cons_append]
  go_wp2_with (first | ((with_reducible refine gate_dst (N := 2) rfl ?_); refine box_event ?hg (N := 2) ?hd (cs := C0) (t := 28) ?hr ?_; (case hd => rfl); (case hg => rfl); (case hr => first | (go_simp; done) | (go_simp; rfl)); intro b1 hg1 w1 hb1 hB1; clear hg1) | ((with_reducible refine gate_dst (N := 3) rfl ?_); refine box_event ?hg (N := 3) ?hd (cs := D0) (t := 28) ?hr ?_; (case hd => rfl); (case hg => rfl); (case hr => first | (go_simp; done) | (go_simp; rfl)); intro b2 hg2 w2 hb2 hB2; clear hg2; have hk1 := blk_below hb1 hB2; have HB2 := Lib.hid (hB1.trans (hB2.mono hB1.size)); clear hb1 hB1 hB2) | ((with_reducible refine gate_dst (N := 5) rfl ?_); refine box_event ?hg (N := 5) ?hd (cs := #[.slice none 0 0]) (t := 47) ?hr ?_; (case hd => rfl); (case hg => rfl); (case hr => first | (go_simp; done) | (go_simp; rfl)); intro bl hgl wl hbl hBl; have K1 := Lib.hid (blk_below hk1 hBl); have K2 := Lib.hid (blk_below hb2 hBl); have KL := Lib.hid hbl; have HBL := Lib.hid (HB2.out.trans (hBl.mono HB2.out.size)); have HGL := Lib.hid (show w.heap.size ≤ bl by rw [hgl]; exact HB2.out.size); clear hk1 hb2 hbl hBl hgl) | ((with_reducible refine gate_ (.load 28 (.tmp 2)) rfl ?_); go_must (refine wpList_load_row rfl 28 (.tmp 2) rfl b1 rfl _ _ _ _ K1.out Try.underlying28 rfl HSP.out ?_)) | ((with_reducible refine gate_ (.load 28 (.tmp 3)) rfl ?_); go_must (refine wpList_load_row rfl 28 (.tmp 3) rfl b2 rfl _ _ _ _ K2.out Try.underlying28 rfl HSQ.out ?_)) | (go_at_call 31; go_must (refine (between_calls p q C0 D0 wl (k28.K_below HBL.out HP.out) (k28.K_below HBL.out HQ.out) hnp hnq hcp hcq HLP.out HLQ.out).mono ?_); rintro e W1 ⟨g5, g6, g7, g8, mo, mn, Ao, An, co, cn, rfl, hBt, hb⟩; have HBT := Lib.hid hBt; have HW := Lib.hid hb; clear hBt hb))
  have hbl : W1.heap[bl]? = some (.cells #[.slice none 0 0] 47 (0, 0)) := (HW.out.block bl (blk_lt KL.out)).trans KL.out
  have hblt : bl < wl.heap.size := blk_lt KL.out
  have hW0 : Below w.heap.size w W1 := HBL.out.trans (HW.out.mono HBL.out.size)
  have hsz : w.heap.size ≤ W1.heap.size := hW0.size
  have hln : wl.heap.size ≤ W1.heap.size := HW.out.size
  have HBD := Lib.hid hblt
  have HSZ := Lib.hid hsz
  have HL0 := Lib.hid (show Lst w bl W1.heap.size [] W1 from ⟨⟨_, hbl, World.ownsRow_nil _ _ _ _, trivial⟩, hW0, Nat.le_refl _⟩)
  clear hbl hblt hW0 hsz hln KL HBL HW K1 K2
  refine (wpIn_wide (n := 5)).1 ?_
  refine wpIn_rangeFunc_ownH (F := Fence.wide) (n := 5) rfl (by omega) (gf := 79) (lb := #[.pointer (some ⟨g5, 0, none⟩), .pointer (some ⟨g8, 0, none⟩), .pointer (some ⟨g6, 0, none⟩), .pointer (some ⟨g7, 0, none⟩)]) rfl trivial (enters_of Try.func79 (by kernel_rfl) rfl)
    (btw_stops Fence.wide 4 trivial rfl (by omega) wl.heap.size W1.heap.size g5 g6 g7 g8 mo mn Ao An co cn (relL p) (relL q) W1 HBT.out (Nat.le_refl _) (by have := HLP.out; omega) (by have := HLQ.out; omega)) keepS_t keepS_b (Below.refl _ _) (fun _ => rfl)
    (Lst w bl W1.heap.size) (fun _ _ _ => False) (Lst.own HSZ.out) (fun _ _ _ _ _ hs _ _ => hs) HL0.out
    (fun x a' W => ∃ Bx, W1.heap.size ≤ Bx ∧ W.heap[Bx]? = some (.cells #[.string x.1.f0, .string x.1.f1, .string x.1.f2, .bool x.2] 53 (0, 0)) ∧ a' = { tmps := #[.agg C0, .agg D0, .pointer (some ⟨b1, 0, none⟩), .pointer (some ⟨b2, 0, none⟩), .slice none 0 0, .pointer (some ⟨bl, 0, none⟩), .pointer (some ⟨Bx, 0, none⟩), .agg C0, .agg D0, .func (.func 79) #[] #[.pointer (some ⟨g5, 0, none⟩), .pointer (some ⟨g8, 0, none⟩), .pointer (some ⟨g6, 0, none⟩), .pointer (some ⟨g7, 0, none⟩)], chV x, undef, undef, undef, undef, undef], defers := [] })
    (fun x a' _ X Y row hs hg hr => by
      obtain ⟨Bx, h1, h2, h3⟩ := hs
      exact ⟨Bx, h1, (hg.block Bx (blk_lt h2) (fun e => by obtain ⟨_, o, ho, hc⟩ := hr Bx e.symm; rw [h2] at ho; cases ho; cases hc)).trans h2, h3⟩)
    ?assign ?body ?done ?stop
  case assign =>
    rintro l pre x W K hI hK
    have HI := Lib.hid hI
    have HK := Lib.hid hK
    have hszW := hI.sz
    clear hI hK
    rw [show (#[10].zip #[chV x] : Array (Tmp × Value)) = #[(10, chV x)] by simp]
    simp only [List.size_toArray, List.length_cons, List.length_nil, List.foldl_toArray', List.foldl_cons, List.foldl_nil, List.setIfInBounds_toArray, List.set_cons_zero, List.set_cons_succ, Nat.reduceAdd]
    show (Code.region 3 _ false).wpIn _ _ _ _ { tmps := #[.agg C0, .agg D0, .pointer (some ⟨b1, 0, none⟩), .pointer (some ⟨b2, 0, none⟩), .slice none 0 0, .pointer (some ⟨bl, 0, none⟩), undef, .agg C0, .agg D0, .func (.func 79) #[] #[.pointer (some ⟨g5, 0, none⟩), .pointer (some ⟨g8, 0, none⟩), .pointer (some ⟨g6, 0, none⟩), .pointer (some ⟨g7, 0, none⟩)], chV x, undef, undef, undef, undef, undef], defers := [] } W
    gi_wp2_with (first | ((with_reducible refine gate_in (.alloc 53) rfl ?_); refine box_in rfl (t := 53) rfl (cs := #[.string ⟨#[]⟩, .string ⟨#[]⟩, .string ⟨#[]⟩, .bool false]) ?hr ?_; (case hr => first | (go_simp; done) | (go_simp; rfl)); intro bt hgt wt hbt hBbt; have hle_bt : W.heap.size ≤ bt := (by omega); clear hgt) | ((with_reducible refine gate_in (.store 53 (.tmp 6) (.tmp 10)) rfl ?_); go_must (refine bstore_in (t := 53) (p := 6) (v := .tmp 10) rfl rfl rfl bt _ #[.string x.1.f0, .string x.1.f1, .string x.1.f2, .bool x.2] (chV x) rfl rfl rfl hbt (by kernel_rfl) (by simp) (by intro q hq; simp only [List.mem_cons, List.not_mem_nil, or_false] at hq; rcases hq with rfl | rfl | rfl | rfl <;> rfl) ?_); intro ws hbs hoth hsz hbel; have hbw := hBbt.trans (hbel _ hle_bt)))
    exact HK.out _ _ (keepsFrom_below hbw) (keepS_below hbw hszW) (HI.out.below hbw) ⟨bt, by omega, hbs, rfl⟩
  case body =>
    rintro l pre x a' W hl ⟨r, hr⟩ hI ⟨Bx, hBx, bX, rfl⟩ hlt
    obtain ⟨v, hv, hrow, -⟩ := hI.ex
    have hc := hv.cell
    have hf := hv.frozen
    have HV := Lib.hid hv
    have HROW := Lib.hid hrow
    have HI := Lib.hid hI
    have HX := Lib.hid bX
    have hpl : pre.length < 131072 := by
      have h1 := HLP.out
      have h2 := HLQ.out
      omega
    have HPL := Lib.hid hpl
    clear hv hrow hI bX hBx hl hr hlt hpl
    gi_wp2_with (first | ((with_reducible refine gate_in (.load 53 (.tmp 6)) rfl ?_); refine load_in rfl 53 (.tmp 6) rfl Bx rfl _ _ _ _ HX.out Try.underlying53 rfl (by kernel_rfl) ?_) | (gi_at_builtin; go_must (refine wpListIn_append_own_at _ rfl _ _ 47 rfl W1.heap.size 53 i0 (.agg #[.string ⟨#[]⟩, .string ⟨#[]⟩, .string ⟨#[]⟩, .bool false]) 4 56 Try.underlying47 HI0.out HZ0.out HZ1.out HZ2.out rfl (by decide) _ _ _ rfl (HROW.out.alloc _) ⟨W.heap.size, 0, none⟩ 1 1 (cells4 x) rfl rfl (four_new _ x _) ?h1c ?b1 ?b2 ?b3 ?_); (case h1c => intro u hu; simp only [cells4, List.mem_cons, List.not_mem_nil, or_false] at hu; rcases hu with rfl | rfl | rfl | rfl <;> rfl); (case b1 => (have := HPL.out; simp only [maxLen]; omega)); (case b2 => (have := HPL.out; omega)); (case b3 => (have := HI.out.sz; rw [size_new]; omega)); intro v' w1 hown' hgrow _ hat; obtain ⟨g', cap', rfl⟩ := ownsRow_succ hown'; obtain ⟨hv1, hk2, hs2, hl2⟩ := Lst.app HGL.out HBD.out HI.out.sz HSZ.out HV.out HROW.out HI.out.bel hown' hgrow; have hc1 := hv1.cell; have hf1 := hv1.frozen; have HK2 := Lib.hid hk2; have HS2 := Lib.hid hs2; have HL2 := Lib.hid hl2; clear hv1 hk2 hs2 hl2 hown' hgrow hat hc hf))
    exact ⟨HK2.out.from _, HS2.out, HL2.out⟩
  case done =>
    rintro D ys W hD rfl hI hK
    obtain ⟨v, hv, hrow, -⟩ := hI.ex
    have hc := hv.cell
    have HR := Lib.hid hrow
    have HI := Lib.hid hI
    have HD := Lib.hid hD
    have HKD := Lib.hid hK
    clear hv hrow hI hD hK
    go_wp2_with fail
    refine ⟨by simp, .inl ⟨_, _, rfl, run_takeDeferred HKD.out, ?_⟩⟩
    refine ⟨_, results_tmp rfl _ _ _, _, rfl, ?_, ?_⟩
    · exact R_flat _ (own_weaken (ownsRow_putObj HR.out _ HKD.out rfl) HSZ.out)
    · exact HI.out.bel.trans (belowK_b (w := w) (Nat.le_refl _) W D _ _ (by have := HD.out; have := HSZ.out; omega) HKD.out rfl rfl)
  case stop =>
    rintro D c pre W _ _ h _
    exact h.elim
/-- No change at all. -/
def sameB (p q : Pol) : Bool := (changeL (relL p) (relL q)).isEmpty
structure Sam (w : World) (br hi : Nat) (W : World) : Prop where
  res : W.heap[br]? = some (.cells #[.bool false] 4 (0, 0))
  bel : Below w.heap.size w W
theorem Sam.own {β : Type} {w : World} {br hi : Nat} (hw : w.heap.size ≤ hi) : OwnFrom hi (fun (_ : β) W => Sam w br hi W) := fun s X Y row hs hg hr =>
  ⟨(hg.block br (blk_lt hs.res) (fun e => by obtain ⟨_, o, ho, hc⟩ := hr br e.symm; rw [hs.res] at ho; cases ho; cases hc)).trans hs.res, ownFrom_below (w₀ := w) (Nat.le_refl _) hw () X Y row hs.bel hg hr⟩
set_option maxRecDepth 100000 in
set_option maxHeartbeats 4000000 in
theorem same_calls (p q : Pol) (C0 D0 : Array Value) (w : World) (hp : k28.K w p C0.toList) (hq : k28.K w q D0.toList) (hnp : OkP p) (hnq : OkP q) (hcp : p.f1.length * (p.f3.length * p.f0.length) ≤ 65536) (hcq : q.f1.length * (q.f3.length * q.f0.length) ≤ 65536) (hlp : (relL p).length ≤ 65536) (hlq : (relL q).length ≤ 65536) :
    Calls Try.prog 37 #[.agg C0, .agg D0] w fun e W => e = .returned (.bool (sameB p q)) ∧ Below w.heap.size w W := by
  have HP := Lib.hid hp
  have HQ := Lib.hid hq
  have HSP := Lib.hid (pol_size hp)
  have HSQ := Lib.hid (pol_size hq)
  have HLP := Lib.hid hlp
  have HLQ := Lib.hid hlq
  clear hp hq hlp hlq
  refine callsIn_wide.1 (callsIn_of_wp_marks (F := Fence.wide) (n := 5) Try.func37 rfl trivial (wpIn_wide.2 ?_) rfl)
  simp only [Try.ntmps37, List.size_toArray, List.length_cons, List.length_nil, Nat.reduceAdd, Nat.reduceSub, Array.replicate_succ, Array.replicate_zero, List.push_toArray, List.append_toArray, List.nil_append, List.cons_append]
  go_wp2_with (first | ((with_reducible refine gate_dst (N := 2) rfl ?_); refine box_event ?hg (N := 2) ?hd (cs := C0) (t := 28) ?hr ?_; (case hd => rfl); (case hg => rfl); (case hr => first | (go_simp; done) | (go_simp; rfl)); intro b1 hg1 w1 hb1 hB1; clear hg1) | ((with_reducible refine gate_dst (N := 3) rfl ?_); refine box_event ?hg (N := 3) ?hd (cs := D0) (t := 28) ?hr ?_; (case hd => rfl); (case hg => rfl); (case hr => first | (go_simp; done) | (go_simp; rfl)); intro b2 hg2 w2 hb2 hB2; clear hg2; have hk1 := blk_below hb1 hB2; have HB2 := Lib.hid (hB1.trans (hB2.mono hB1.size)); clear hb1 hB1 hB2) | ((with_reducible refine gate_dst (N := 4) rfl ?_); refine box_event ?hg (N := 4) ?hd (cs := #[.bool false]) (t := 4) ?hr ?_; (case hd => rfl); (case hg => rfl); (case hr => first | (go_simp; done) | (go_simp; rfl)); intro bl hgl wl hbl hBl; have K1 := Lib.hid (blk_below hk1 hBl); have K2 := Lib.hid (blk_below hb2 hBl); have KL := Lib.hid hbl; have HBL := Lib.hid (HB2.out.trans (hBl.mono HB2.out.size)); have HGL := Lib.hid (show w.heap.size ≤ bl by rw [hgl]; exact HB2.out.size); clear hk1 hb2 hbl hBl hgl) | ((with_reducible refine gate_ (.load 28 (.tmp 2)) rfl ?_); go_must (refine wpList_load_row rfl 28 (.tmp 2) rfl b1 rfl _ _ _ _ K1.out Try.underlying28 rfl HSP.out ?_)) | ((with_reducible refine gate_ (.load 28 (.tmp 3)) rfl ?_); go_must (refine wpList_load_row rfl 28 (.tmp 3) rfl b2 rfl _ _ _ _ K2.out Try.underlying28 rfl HSQ.out ?_)) | (go_at_call 31; go_must (refine (between_calls p q C0 D0 wl (k28.K_below HBL.out HP.out) (k28.K_below HBL.out HQ.out) hnp hnq hcp hcq HLP.out HLQ.out).mono ?_); rintro e W1 ⟨g5, g6, g7, g8, mo, mn, Ao, An, co, cn, rfl, hBt, hb⟩; have HBT := Lib.hid hBt; have HW := Lib.hid hb; clear hBt hb))
  have hbl : W1.heap[bl]? = some (.cells #[.bool false] 4 (0, 0)) := (HW.out.block bl (blk_lt KL.out)).trans KL.out
  have hblt : bl < wl.heap.size := blk_lt KL.out
  have hW0 : Below w.heap.size w W1 := HBL.out.trans (HW.out.mono HBL.out.size)
  have hsz : w.heap.size ≤ W1.heap.size := hW0.size
  have HBD := Lib.hid hblt
  have HSZ := Lib.hid hsz
  have HL0 := Lib.hid (show Sam w bl W1.heap.size W1 from ⟨hbl, hW0⟩)
  clear hbl hblt hW0 hsz KL HBL HW K1 K2
  refine (wpIn_wide (n := 5)).1 ?_
  refine wpIn_rangeFunc_ownF (F := Fence.wide) (n := 5) rfl (by omega) (gf := 79) (lb := #[.pointer (some ⟨g5, 0, none⟩), .pointer (some ⟨g8, 0, none⟩), .pointer (some ⟨g6, 0, none⟩), .pointer (some ⟨g7, 0, none⟩)]) rfl trivial (enters_of Try.func79 (by kernel_rfl) rfl)
    (btw_stops Fence.wide 4 trivial rfl (by omega) wl.heap.size W1.heap.size g5 g6 g7 g8 mo mn Ao An co cn (relL p) (relL q) W1 HBT.out (Nat.le_refl _) (by have := HLP.out; omega) (by have := HLQ.out; omega)) keepS_t keepS_b (Below.refl _ _) (fun _ => rfl)
    (fun pre W => pre = [] ∧ Sam w bl W1.heap.size W) (fun c pre W => (c = Code.ret ∧ pre ≠ []) ∧ Sam w bl W1.heap.size W) (OwnFrom.and (ownFrom_pure _ _) (Sam.own HSZ.out)) (fun c => OwnFrom.and (ownFrom_pure _ _) (Sam.own HSZ.out)) ⟨rfl, HL0.out⟩
    (fun x => { tmps := #[.agg C0, .agg D0, .pointer (some ⟨b1, 0, none⟩), .pointer (some ⟨b2, 0, none⟩), .pointer (some ⟨bl, 0, none⟩), .agg C0, .agg D0, .func (.func 79) #[] #[.pointer (some ⟨g5, 0, none⟩), .pointer (some ⟨g8, 0, none⟩), .pointer (some ⟨g6, 0, none⟩), .pointer (some ⟨g7, 0, none⟩)], chV x], defers := [] })
    ?assign ?body ?done ?stop
  case assign =>
    intro l x W K hK
    rw [show (#[8].zip #[chV x] : Array (Tmp × Value)) = #[(8, chV x)] by simp]
    gi_wp2
    exact hK
  case body =>
    rintro l pre x W ⟨rfl, hS⟩ _
    have c4 := (blk_cell hS.res 0).trans (Eq.refl (some (Value.bool false)))
    have f4 := blk_frozen hS.res 0
    have HS := Lib.hid hS
    clear hS
    gi_wp2
    exact ⟨KeepsOthers.setCell _ _ _, ⟨rfl, by simp⟩, (blk_set HS.out.res 0 (.bool false)), HS.out.bel.setCell (p := ⟨bl, 0, none⟩) HGL.out _⟩
  case done =>
    rintro D ys W hD rfl ⟨he, hS⟩ hK
    have c4 := (blk_cell hS.res 0).trans (Eq.refl (some (Value.bool false)))
    have f4 := blk_frozen hS.res 0
    have HS := Lib.hid hS
    have HD := Lib.hid hD
    have HKD := Lib.hid hK
    have HE := Lib.hid (show sameB p q = true by unfold sameB; rw [he]; rfl)
    clear hS hD hK he
    go_wp2_with fail
    have hKD := (KeepsOthers.setCell W ⟨bl, 0, none⟩ (Value.bool true)).same D _ HKD.out rfl
    have hne : bl ≠ D := by
      rintro rfl
      have := HS.out.res.symm.trans HKD.out
      cases this
    have hr3 : ((W.setCell ⟨bl, 0, none⟩ (.bool true)).putObj D (.deferred none)).heap[bl]? = some (.cells #[.bool true] 4 (0, 0)) := (World.putObj_heap_other hne).trans (blk_set HS.out.res 0 (.bool true))
    refine ⟨by simp, .inl ⟨_, _, rfl, run_takeDeferred hKD, ?_⟩⟩
    have hr4 := (blk_cell hr3 0).trans (Eq.refl (some (Value.bool true)))
    refine ⟨.bool true, by simp [results, Try.results37, go_sem, hr4, asAddr], by rw [HE.out], ?_⟩
    exact (HS.out.bel.setCell (p := ⟨bl, 0, none⟩) HGL.out _).trans (belowK_b (w := w) (Nat.le_refl _) _ D _ _ (by have := HD.out; have := HSZ.out; omega) hKD rfl rfl)
  case stop =>
    rintro D c pre W hD hpre ⟨⟨rfl, hn⟩, hS⟩ hK
    have HE := Lib.hid (show sameB p q = false by
      unfold sameB
      cases hq : changeL (relL p) (relL q) with
      | nil => rw [hq] at hpre; exact absurd (List.prefix_nil.1 hpre) hn
      | cons a l => rfl)
    have HS := Lib.hid hS
    have HD := Lib.hid hD
    have HKD := Lib.hid hK
    clear hS hD hK hpre hn
    gi_wp2
    have hne : bl ≠ D := by
      rintro rfl
      have := HS.out.res.symm.trans HKD.out
      cases this
    have hr3 : (W.putObj D (.deferred none)).heap[bl]? = some (.cells #[.bool false] 4 (0, 0)) := (World.putObj_heap_other hne).trans HS.out.res
    refine ⟨by simp, .inl ⟨_, _, rfl, run_takeDeferred HKD.out, ?_⟩⟩
    have hr4 := (blk_cell hr3 0).trans (Eq.refl (some (Value.bool false)))
    refine ⟨.bool false, by simp [results, Try.results37, go_sem, hr4, asAddr], by rw [HE.out], ?_⟩
    exact HS.out.bel.trans (belowK_b (w := w) (Nat.le_refl _) _ D _ _ (by have := HD.out; have := HSZ.out; omega) HKD.out rfl rfl)
end Go.Proofs.Yteefneemmdfncaa.M
