import Derived.Test.YteefneemmdfncaaBv
import Derived.Test.YteefneemmdfncaaWIn
import Derived.RangeFuncBox
import Derived.RangeFuncLeaves
import Derived.Shelf.Abstract
import Derived.WalkKit
import Derived.OwnWalkIn
import Derived.TacticsInMore
import Derived.LoopNIn
import Derived.LoopIn
import Derived.RangeFuncNested
import Derived.Shelf.RegionOpenPlain
/- What diff.Between hands back, walked: the triples that one list has and the other has not. Conditions: each theorem's own. -/
namespace Go.Proofs.Yteefneemmdfncaa.M
open Go.RowKit Go.Shelf Go.Proofs.YteefneemmdfncaaW.Raw Go.Proofs.YteefneemmdfncaaW.PrintWords Go.Proofs.Yteefneemmdfncaa.F
set_option linter.unusedVariables false
set_option linter.unusedSimpArgs false
attribute [local go_sem] Oper.semAt_some
def inC (l : List Tri) (t : Tri) : Bool := l.any (keyE t)
abbrev chV (x : Tri × Bool) : Value := .agg #[.string x.1.f0, .string x.1.f1, .string x.1.f2, .bool x.2]
/-- Those of one list that the other has not. -/
def goneL (l m : List Tri) (b : Bool) : List (Tri × Bool) := (l.filter fun t => !inC m t).map fun t => (t, b)
theorem goneL_snoc (l m : List Tri) (b : Bool) (t : Tri) : goneL (l ++ [t]) m b = goneL l m b ++ if inC m t = true then [] else [(t, b)] := by
  unfold goneL
  rw [List.filter_append, List.map_append]
  congr 1
  cases h : inC m t <;> simp [h]
theorem inC_iff (l : List Tri) (t : Tri) : inC l t = true ↔ t ∈ l := by
  unfold inC
  rw [List.any_eq_true]
  constructor
  · rintro ⟨x, hx, h⟩
    rw [keyE_iff] at h
    exact h ▸ hx
  · exact fun h => ⟨t, h, (keyE_iff t t).2 rfl⟩
theorem look_crowd {L l : List Tri} (hL : ∀ t, t ∈ L ↔ t ∈ l) (t : Tri) : lkOk keyE L t = inC l t := by
  cases h : inC l t with
  | true =>
    rw [inC_iff] at h
    obtain ⟨i, hi, _⟩ := idx_some ((hL t).2 h)
    exact lkOk_some hi
  | false =>
    have hn : t ∉ L := fun h2 => by
      rw [hL t, ← inC_iff, h] at h2
      cases h2
    exact lkOk_none (idx_none hn)
theorem lkVal_unit (L : List Tri) (x : Tri) : lkVal keyE unitV L (L.map fun _ => unitV) x = unitV := by
  cases h : L.findIdx? (keyE x) with
  | none => exact lkVal_none h
  | some i =>
    obtain ⟨hlt, _⟩ := List.findIdx?_eq_some_iff_getElem.1 h
    rw [lkVal_some h]
    simp [List.getD_eq_getElem?_getD, hlt]
theorem keepS_next {B hi : Nat} {W wr wr' : World} (hh : hi ≤ W.heap.size) (h : keepS B hi W wr) (hb : Below wr.heap.size wr wr') : keepS B hi W wr' := fun i h1 h2 => by
  have e := h i h1 h2
  have hs : (W.heap[i]?).isSome = true := by rw [Array.getElem?_eq_getElem (Nat.lt_of_lt_of_le h2 hh)]; rfl
  have hlt : i < wr.heap.size := by
    rcases Nat.lt_or_ge i wr.heap.size with h3 | h3
    · exact h3
    · rw [← e, Array.getElem?_eq_none h3] at hs
      cases hs
  exact (hb.block i hlt).trans e
theorem abide_below {β : Type} {B : Nat} {J : β → World → Prop} (h : AbidesFrom B J) {s : β} {W W' : World} (hJ : J s W) (hb : Below W.heap.size W W') : J s W' :=
  h s W W' none hJ ⟨hb.os, hb.tape, hb.output, hb.size, fun i hi _ => hb.block i hi⟩ (fun r hr => by cases hr)
set_option maxRecDepth 100000 in
set_option maxHeartbeats 4000000 in
theorem btw1_in (F : Fence) (n : Nat) (hf : F.fn 79) (hro : F.round = none) (hn : 1 ≤ n) (l B hi g5 g6 g7 g8 mo mn : Nat) (Ao An : Option Addr) (co cn : Nat) (old now : List Tri) (J Jx : List (Tri × Bool) → World → Prop) (B0 : Nat) (hJ : AbidesFrom B0 J) (hJx : AbidesFrom B0 Jx)
    (hY : ∀ pre x W1, J pre W1 → pre.length < old.length + now.length → YieldAt F (n - 1) Try.prog l #[chV x] W1 fun e W' =>
      (e = .returned (.bool true) ∧ J (pre ++ [x]) W' ∧ keepS B hi W1 W') ∨ (e = .returned (.bool false) ∧ Jx (pre ++ [x]) W'))
    (W : World) (hB : Btw B hi W g5 g6 g7 g8 mo mn Ao An co cn old now) (hhi : hi ≤ W.heap.size) (hlo : old.length ≤ 1048576) (hln : now.length ≤ 1048576) (h0 : J [] W) :
    CallsIn F n Try.prog 79 #[.func (.yield l) #[] #[], .pointer (some ⟨g5, 0, none⟩), .pointer (some ⟨g8, 0, none⟩), .pointer (some ⟨g6, 0, none⟩), .pointer (some ⟨g7, 0, none⟩)] W fun e W' => (∃ v, e = .returned v) ∧
      ((∃ ys, ys = goneL old now false ++ goneL now old true ∧ J ys W') ∨ (∃ pre, pre <+: goneL old now false ++ goneL now old true ∧ Jx pre W')) := by
  have HB := Lib.hid hB
  have c5 := (blk_cell hB.h5 0).trans (Eq.refl (some (Value.slice Ao old.length co)))
  clear hB
  refine callsIn_of_wp Try.func79 rfl hf ?_ hro
  simp only [Try.ntmps79, List.size_toArray, List.length_cons, List.length_nil, Nat.reduceAdd, Nat.reduceSub, Array.replicate_succ, Array.replicate_zero, List.push_toArray, List.append_toArray, List.nil_append, List.cons_append]
  gi_wp2
  gi_loopw [16] (fun i wr => ∃ k : Nat, k ≤ old.length ∧ i = .int .i64 (k : Nat) ∧ J (goneL (old.take k) now false) wr ∧ keepS B hi W wr) (fun i _ => old.length - (intOf i).toNat)
  case atStart => exact ⟨0, Nat.zero_le _, rfl, h0, keepS.refl _ _ _⟩
  case round =>
    obtain ⟨k, hk, rfl, hJs, hnx⟩ := hrel
    have HW := Lib.hid (HB.out.keeps hnx)
    by_cases hlt : k < old.length
    · obtain ⟨ad, eA, c0, c1, c2⟩ := at_T30 (Kd.R_reads' HW.out.ro).2.2 (k : Int) (by omega) (by omega)
      subst eA
      obtain ⟨x, hx⟩ : ∃ x, x = rd_T30 old (k : Int) := ⟨_, rfl⟩
      rw [← hx, Int.toNat_natCast] at c0 c1 c2
      have hkx : old[k]? = some x := by rw [hx]; simp [rd_T30, List.getD_eq_getElem?_getD, List.getElem?_eq_getElem hlt]
      have htk : old.take (k + 1) = old.take k ++ [x] := by rw [List.take_add_one, hkx]; rfl
      have HTK := Lib.hid htk
      obtain ⟨L, hL, hRM⟩ := HW.out.cn_
      have HL := Lib.hid hL
      have i0 : (0 : Int) ≤ (k : Int) := by omega
      have i1 : (k : Int) < (old.length : Int) := by omega
      have HJS := Lib.hid hJs
      have HNX := Lib.hid hnx
      have HY := Lib.hid hY
      clear hx hkx htk hL hJs hnx hY
      cases hin : inC now x with
      | true =>
        have HIN := Lib.hid hin
        clear hin
        gi_wp2_with (first | ((with_reducible refine gate_in (.alloc 30) rfl ?_); refine box_in rfl (t := 30) rfl (cs := #[.string ⟨#[]⟩, .string ⟨#[]⟩, .string ⟨#[]⟩]) ?hr ?_; (case hr => first | (go_simp; done) | (go_simp; rfl)); intro bt hg_ wt hbt hBbt; have hle_bt : wr.heap.size ≤ bt := (by omega); clear hg_) | ((with_reducible refine gate_in (.store 30 (.tmp 7) (.tmp 19)) rfl ?_); refine bstore_in (t := 30) (p := 7) (v := .tmp 19) rfl rfl rfl bt _ #[.string x.f0, .string x.f1, .string x.f2] (.agg #[.string x.f0, .string x.f1, .string x.f2]) rfl rfl rfl hbt (by kernel_rfl) (by simp) (by intro q hq; simp only [List.mem_cons, List.not_mem_nil, or_false] at hq; rcases hq with rfl | rfl | rfl <;> rfl) ?_; intro ws hbs hoth hsz hbel; have HBX := Lib.hid hbs; have hbw := hBbt.trans (hbel _ hle_bt); have BWS := Lib.hid hbw; have cm := (blk_cell (blk_below HW.out.h8 hbw) 0).trans (Eq.refl (some (Value.map (some mn)))); have HRM := Lib.hid (hRM.below hbw); clear hbt hbs hoth hsz hbel hBbt hbw) | ((with_reducible refine gate_in (.load 30 (.tmp 7)) rfl ?_); refine load_in rfl 30 (.tmp 7) rfl bt rfl _ _ _ _ HBX.out Try.underlying30 rfl (by kernel_rfl) ?_) | (gi_at_lookup; refine look_in rfl _ _ rfl key_tri Try.underlying99 (z := unitV) (zeroU _) rfl HRM.out x rfl ?_; rw [look_crowd HL.out x, HIN.out, lkVal_unit]) | ((with_reducible refine gate_in (.alloc 102) rfl ?_); refine box_in rfl (t := 102) rfl (cs := #[]) ?hr ?_; (case hr => first | (go_simp; done) | (go_simp; rfl)); intro bu hg_ wu hbu hBbu; have hle_bu : ws.heap.size ≤ bu := (by omega); clear hg_) | ((with_reducible refine gate_in (.store 102 (.tmp 8) (.tmp 24)) rfl ?_); go_must (refine bstore_in (t := 102) (p := 8) (v := .tmp 24) rfl rfl rfl bu #[] #[] unitV rfl rfl ?hu8 hbu (by kernel_rfl) rfl (by simp) ?_); (case hu8 => first | rfl | (go_simp; done)); intro wv hbv hoth hsz hbel; have hbx := hBbu.trans (hbel _ hle_bu); have HBV := Lib.hid (BWS.out.trans (hbx.mono BWS.out.size)); have HBY := Lib.hid (blk_below HBX.out hbx); clear hbu hbv hoth hsz hbel hBbu hbx))
        refine ⟨fun _ h => (by cases h), ?_⟩
        gi_wp2
        go_roundw
        case rel => exact ⟨k + 1, hlt, by go_num, by rw [HTK.out, goneL_snoc, HIN.out, if_pos rfl, List.append_nil]; exact abide_below hJ HJS.out HBV.out, keepS_next hhi HNX.out HBV.out⟩
        case measure => simp [intOf]; omega
      | false =>
        have HIN := Lib.hid hin
        clear hin
        have hlen : (goneL (old.take k) now false).length < old.length + now.length := by
          unfold goneL
          rw [List.length_map]
          have := List.length_filter_le (fun t => !inC now t) (old.take k)
          rw [List.length_take] at this
          omega
        gi_wp2_with (first | ((with_reducible refine gate_in (.alloc 30) rfl ?_); refine box_in rfl (t := 30) rfl (cs := #[.string ⟨#[]⟩, .string ⟨#[]⟩, .string ⟨#[]⟩]) ?hr ?_; (case hr => first | (go_simp; done) | (go_simp; rfl)); intro bt hg_ wt hbt hBbt; have hle_bt : wr.heap.size ≤ bt := (by omega); clear hg_) | ((with_reducible refine gate_in (.store 30 (.tmp 7) (.tmp 19)) rfl ?_); refine bstore_in (t := 30) (p := 7) (v := .tmp 19) rfl rfl rfl bt _ #[.string x.f0, .string x.f1, .string x.f2] (.agg #[.string x.f0, .string x.f1, .string x.f2]) rfl rfl rfl hbt (by kernel_rfl) (by simp) (by intro q hq; simp only [List.mem_cons, List.not_mem_nil, or_false] at hq; rcases hq with rfl | rfl | rfl <;> rfl) ?_; intro ws hbs hoth hsz hbel; have HBX := Lib.hid hbs; have hbw := hBbt.trans (hbel _ hle_bt); have BWS := Lib.hid hbw; have cm := (blk_cell (blk_below HW.out.h8 hbw) 0).trans (Eq.refl (some (Value.map (some mn)))); have HRM := Lib.hid (hRM.below hbw); clear hbt hbs hoth hsz hbel hBbt hbw) | ((with_reducible refine gate_in (.load 30 (.tmp 7)) rfl ?_); refine load_in rfl 30 (.tmp 7) rfl bt rfl _ _ _ _ HBX.out Try.underlying30 rfl (by kernel_rfl) ?_) | (gi_at_lookup; refine look_in rfl _ _ rfl key_tri Try.underlying99 (z := unitV) (zeroU _) rfl HRM.out x rfl ?_; rw [look_crowd HL.out x, HIN.out, lkVal_unit]) | ((with_reducible refine gate_in (.alloc 102) rfl ?_); refine box_in rfl (t := 102) rfl (cs := #[]) ?hr ?_; (case hr => first | (go_simp; done) | (go_simp; rfl)); intro bu hg_ wu hbu hBbu; have hle_bu : ws.heap.size ≤ bu := (by omega); clear hg_) | ((with_reducible refine gate_in (.store 102 (.tmp 8) (.tmp 24)) rfl ?_); go_must (refine bstore_in (t := 102) (p := 8) (v := .tmp 24) rfl rfl rfl bu #[] #[] unitV rfl rfl ?hu8 hbu (by kernel_rfl) rfl (by simp) ?_); (case hu8 => first | rfl | (go_simp; done)); intro wv hbv hoth hsz hbel; have hbx := hBbu.trans (hbel _ hle_bu); have HBV := Lib.hid (BWS.out.trans (hbx.mono BWS.out.size)); have HBY := Lib.hid (blk_below HBX.out hbx); obtain ⟨fn, tmps, assign, body, hy, hR⟩ := HY.out _ (x, false) wv (abide_below hJ HJS.out HBV.out) hlen; (try dsimp only at hy); have t0 := (blk_cell HBY.out 0).trans (Eq.refl (some (Value.string x.f0))); have t1 := (blk_cell HBY.out 1).trans (Eq.refl (some (Value.string x.f1))); have t2 := (blk_cell HBY.out 2).trans (Eq.refl (some (Value.string x.f2))); clear hbu hbv hoth hsz hbel hBbu hbx) | ((with_reducible refine gate_in (.load 30 (.tmp 7)) rfl ?_); refine load_in rfl 30 (.tmp 7) rfl bt rfl _ _ _ _ HBY.out Try.underlying30 rfl (by kernel_rfl) ?_))
        refine hR.mono ?_
        rintro e W3 (⟨rfl, hJ3, hk3⟩ | ⟨rfl, hJx3⟩)
        · gi_wp2
          go_roundw
          case rel => exact ⟨k + 1, hlt, by go_num, by rw [HTK.out, goneL_snoc, HIN.out, if_neg Bool.false_ne_true]; exact hJ3, keepS_t (keepS_next hhi HNX.out HBV.out) hk3⟩
          case measure => simp [intOf]; omega
        · gi_wp2
          refine bodyPost_ret (results_none rfl _ _ _) rfl ?_
          refine ⟨⟨_, rfl⟩, .inr ⟨_, ?_, hJx3⟩⟩
          have e1 : goneL (old.take (k + 1)) now false = goneL (old.take k) now false ++ [(x, false)] := by rw [HTK.out, goneL_snoc, HIN.out, if_neg Bool.false_ne_true]
          rw [← e1]
          refine List.IsPrefix.trans ?_ (List.prefix_append _ _)
          refine ⟨goneL (old.drop (k + 1)) now false, ?_⟩
          unfold goneL
          rw [← List.map_append, ← List.filter_append, List.take_append_drop]
    · obtain rfl : k = old.length := by omega
      have c6 := (blk_cell HW.out.h6 0).trans (Eq.refl (some (Value.slice An now.length cn)))
      rw [List.take_length] at hJs
      obtain ⟨W2, hW2⟩ : ∃ x, x = wr := ⟨wr, rfl⟩
      have HK2 := Lib.hid hnx
      have HJ2 := Lib.hid hJs
      clear hnx hJs hlt hk HW hW2
      gi_wp2
      gi_loopw [38] (fun i wr => ∃ k : Nat, k ≤ now.length ∧ i = .int .i64 (k : Nat) ∧ J (goneL old now false ++ goneL (now.take k) old true) wr ∧ keepS B hi W wr) (fun i _ => now.length - (intOf i).toNat)
      case atStart => exact ⟨0, Nat.zero_le _, rfl, by rw [List.take_zero]; show J (goneL old now false ++ []) _; rw [List.append_nil]; exact HJ2.out, HK2.out⟩
      case round =>
        obtain ⟨k, hk, rfl, hJs, hnx⟩ := hrel
        have HW := Lib.hid (HB.out.keeps hnx)
        by_cases hlt : k < now.length
        · obtain ⟨ad, eA, c0, c1, c2⟩ := at_T30 (Kd.R_reads' HW.out.rn).2.2 (k : Int) (by omega) (by omega)
          subst eA
          obtain ⟨x, hx⟩ : ∃ x, x = rd_T30 now (k : Int) := ⟨_, rfl⟩
          rw [← hx, Int.toNat_natCast] at c0 c1 c2
          have hkx : now[k]? = some x := by rw [hx]; simp [rd_T30, List.getD_eq_getElem?_getD, List.getElem?_eq_getElem hlt]
          have htk : now.take (k + 1) = now.take k ++ [x] := by rw [List.take_add_one, hkx]; rfl
          have HTK := Lib.hid htk
          obtain ⟨L, hL, hRM⟩ := HW.out.co_
          have HL := Lib.hid hL
          have i0 : (0 : Int) ≤ (k : Int) := by omega
          have i1 : (k : Int) < (now.length : Int) := by omega
          have HJS := Lib.hid hJs
          have HNX := Lib.hid hnx
          have HY := Lib.hid hY
          clear hx hkx htk hL hJs hnx hY
          cases hin : inC old x with
          | true =>
            have HIN := Lib.hid hin
            clear hin
            gi_wp2_with (first | ((with_reducible refine gate_in (.alloc 30) rfl ?_); refine box_in rfl (t := 30) rfl (cs := #[.string ⟨#[]⟩, .string ⟨#[]⟩, .string ⟨#[]⟩]) ?hr ?_; (case hr => first | (go_simp; done) | (go_simp; rfl)); intro bt hg_ wt hbt hBbt; have hle_bt : wr.heap.size ≤ bt := (by omega); clear hg_) | ((with_reducible refine gate_in (.store 30 (.tmp 11) (.tmp 41)) rfl ?_); refine bstore_in (t := 30) (p := 11) (v := .tmp 41) rfl rfl rfl bt _ #[.string x.f0, .string x.f1, .string x.f2] (.agg #[.string x.f0, .string x.f1, .string x.f2]) rfl rfl rfl hbt (by kernel_rfl) (by simp) (by intro q hq; simp only [List.mem_cons, List.not_mem_nil, or_false] at hq; rcases hq with rfl | rfl | rfl <;> rfl) ?_; intro ws hbs hoth hsz hbel; have HBX := Lib.hid hbs; have hbw := hBbt.trans (hbel _ hle_bt); have BWS := Lib.hid hbw; have cm := (blk_cell (blk_below HW.out.h7 hbw) 0).trans (Eq.refl (some (Value.map (some mo)))); have HRM := Lib.hid (hRM.below hbw); clear hbt hbs hoth hsz hbel hBbt hbw) | ((with_reducible refine gate_in (.load 30 (.tmp 11)) rfl ?_); refine load_in rfl 30 (.tmp 11) rfl bt rfl _ _ _ _ HBX.out Try.underlying30 rfl (by kernel_rfl) ?_) | (gi_at_lookup; refine look_in rfl _ _ rfl key_tri Try.underlying99 (z := unitV) (zeroU _) rfl HRM.out x rfl ?_; rw [look_crowd HL.out x, HIN.out, lkVal_unit]) | ((with_reducible refine gate_in (.alloc 102) rfl ?_); refine box_in rfl (t := 102) rfl (cs := #[]) ?hr ?_; (case hr => first | (go_simp; done) | (go_simp; rfl)); intro bu hg_ wu hbu hBbu; have hle_bu : ws.heap.size ≤ bu := (by omega); clear hg_) | ((with_reducible refine gate_in (.store 102 (.tmp 12) (.tmp 46)) rfl ?_); go_must (refine bstore_in (t := 102) (p := 12) (v := .tmp 46) rfl rfl rfl bu #[] #[] unitV rfl rfl ?hu8 hbu (by kernel_rfl) rfl (by simp) ?_); (case hu8 => first | rfl | (go_simp; done)); intro wv hbv hoth hsz hbel; have hbx := hBbu.trans (hbel _ hle_bu); have HBV := Lib.hid (BWS.out.trans (hbx.mono BWS.out.size)); have HBY := Lib.hid (blk_below HBX.out hbx); clear hbu hbv hoth hsz hbel hBbu hbx))
            refine ⟨fun _ h => (by cases h), ?_⟩
            gi_wp2
            go_roundw
            case rel => exact ⟨k + 1, hlt, by go_num, by rw [HTK.out, goneL_snoc, HIN.out, if_pos rfl, List.append_nil]; exact abide_below hJ HJS.out HBV.out, keepS_next hhi HNX.out HBV.out⟩
            case measure => simp [intOf]; omega
          | false =>
            have HIN := Lib.hid hin
            clear hin
            have hlen : (goneL old now false ++ goneL (now.take k) old true).length < old.length + now.length := by
              unfold goneL
              rw [List.length_append, List.length_map, List.length_map]
              have h1 := List.length_filter_le (fun t => !inC now t) old
              have h2 := List.length_filter_le (fun t => !inC old t) (now.take k)
              rw [List.length_take] at h2
              omega
            gi_wp2_with (first | ((with_reducible refine gate_in (.alloc 30) rfl ?_); refine box_in rfl (t := 30) rfl (cs := #[.string ⟨#[]⟩, .string ⟨#[]⟩, .string ⟨#[]⟩]) ?hr ?_; (case hr => first | (go_simp; done) | (go_simp; rfl)); intro bt hg_ wt hbt hBbt; have hle_bt : wr.heap.size ≤ bt := (by omega); clear hg_) | ((with_reducible refine gate_in (.store 30 (.tmp 11) (.tmp 41)) rfl ?_); refine bstore_in (t := 30) (p := 11) (v := .tmp 41) rfl rfl rfl bt _ #[.string x.f0, .string x.f1, .string x.f2] (.agg #[.string x.f0, .string x.f1, .string x.f2]) rfl rfl rfl hbt (by kernel_rfl) (by simp) (by intro q hq; simp only [List.mem_cons, List.not_mem_nil, or_false] at hq; rcases hq with rfl | rfl | rfl <;> rfl) ?_; intro ws hbs hoth hsz hbel; have HBX := Lib.hid hbs; have hbw := hBbt.trans (hbel _ hle_bt); have BWS := Lib.hid hbw; have cm := (blk_cell (blk_below HW.out.h7 hbw) 0).trans (Eq.refl (some (Value.map (some mo)))); have HRM := Lib.hid (hRM.below hbw); clear hbt hbs hoth hsz hbel hBbt hbw) | ((with_reducible refine gate_in (.load 30 (.tmp 11)) rfl ?_); refine load_in rfl 30 (.tmp 11) rfl bt rfl _ _ _ _ HBX.out Try.underlying30 rfl (by kernel_rfl) ?_) | (gi_at_lookup; refine look_in rfl _ _ rfl key_tri Try.underlying99 (z := unitV) (zeroU _) rfl HRM.out x rfl ?_; rw [look_crowd HL.out x, HIN.out, lkVal_unit]) | ((with_reducible refine gate_in (.alloc 102) rfl ?_); refine box_in rfl (t := 102) rfl (cs := #[]) ?hr ?_; (case hr => first | (go_simp; done) | (go_simp; rfl)); intro bu hg_ wu hbu hBbu; have hle_bu : ws.heap.size ≤ bu := (by omega); clear hg_) | ((with_reducible refine gate_in (.store 102 (.tmp 12) (.tmp 46)) rfl ?_); go_must (refine bstore_in (t := 102) (p := 12) (v := .tmp 46) rfl rfl rfl bu #[] #[] unitV rfl rfl ?hu8 hbu (by kernel_rfl) rfl (by simp) ?_); (case hu8 => first | rfl | (go_simp; done)); intro wv hbv hoth hsz hbel; have hbx := hBbu.trans (hbel _ hle_bu); have HBV := Lib.hid (BWS.out.trans (hbx.mono BWS.out.size)); have HBY := Lib.hid (blk_below HBX.out hbx); obtain ⟨fn, tmps, assign, body, hy, hR⟩ := HY.out _ (x, true) wv (abide_below hJ HJS.out HBV.out) hlen; (try dsimp only at hy); have t0 := (blk_cell HBY.out 0).trans (Eq.refl (some (Value.string x.f0))); have t1 := (blk_cell HBY.out 1).trans (Eq.refl (some (Value.string x.f1))); have t2 := (blk_cell HBY.out 2).trans (Eq.refl (some (Value.string x.f2))); clear hbu hbv hoth hsz hbel hBbu hbx) | ((with_reducible refine gate_in (.load 30 (.tmp 11)) rfl ?_); refine load_in rfl 30 (.tmp 11) rfl bt rfl _ _ _ _ HBY.out Try.underlying30 rfl (by kernel_rfl) ?_))
            refine hR.mono ?_
            rintro e W3 (⟨rfl, hJ3, hk3⟩ | ⟨rfl, hJx3⟩)
            · gi_wp2
              go_roundw
              case rel => exact ⟨k + 1, hlt, by go_num, by rw [HTK.out, goneL_snoc, HIN.out, if_neg Bool.false_ne_true, ← List.append_assoc]; exact hJ3, keepS_t (keepS_next hhi HNX.out HBV.out) hk3⟩
              case measure => simp [intOf]; omega
            · gi_wp2
              refine bodyPost_ret (results_none rfl _ _ _) rfl ?_
              refine ⟨⟨_, rfl⟩, .inr ⟨_, ?_, hJx3⟩⟩
              have e1 : goneL (now.take (k + 1)) old true = goneL (now.take k) old true ++ [(x, true)] := by rw [HTK.out, goneL_snoc, HIN.out, if_neg Bool.false_ne_true]
              rw [List.append_assoc, ← e1]
              refine ⟨goneL (now.drop (k + 1)) old true, ?_⟩
              unfold goneL
              rw [List.append_assoc, ← List.map_append, ← List.filter_append, List.take_append_drop]
        · obtain rfl : k = now.length := by omega
          rw [List.take_length] at hJs
          gi_wp2
          go_end0
          exact ⟨⟨_, rfl⟩, .inl ⟨_, rfl, hJs⟩⟩
end Go.Proofs.Yteefneemmdfncaa.M
