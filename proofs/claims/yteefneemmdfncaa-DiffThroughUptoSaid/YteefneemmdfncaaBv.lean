import Derived.Test.YteefneemmdfncaaBu
import Derived.Test.YteefneemmdfncaaSC
/- diff.Between, walked: what it hands back. Condition: the policies read as they must and are small enough. -/
namespace Go.Proofs.Yteefneemmdfncaa.M
open Go.RowKit Go.Proofs.YteefneemmdfncaaW.Raw Go.Proofs.YteefneemmdfncaaW.PrintWords Go.Proofs.YteefneemmdfncaaW.PrintLast Go.Proofs.YteefneemmdfncaaW.PrintAll Go.Proofs.Yteefneemmdfncaa.F
set_option linter.unusedVariables false
set_option linter.unusedSimpArgs false
/-- A row of triples of its own, out of a row whose elements may be shared: they lead to nothing. -/
theorem R_of_N {w : World} {base : Nat} {ok : Nat → Prop} {v : Value} {xs : List Tri} (h : Kd.N k30 30 w base ok v xs) : Kd.R k30 30 w base ok v xs := by
  obtain ⟨h0, rows, hl, ⟨h1, inner, ho, hr⟩, hf⟩ := h
  refine ⟨h0, inner, by rw [← hl]; exact ho, by rw [← hl]; exact hr.1, fun j x hx => ?_⟩
  have hj : j < rows.length := by rw [hl]; exact (List.getElem?_eq_some_iff.1 hx).1
  have h2 := hr.2 j _ (List.getElem?_eq_getElem hj)
  have h3 := hf j x _ hx (List.getElem?_eq_getElem hj)
  have h4 : k30.K w x rows[j] := h3 w (fun _ _ _ => rfl)
  have h5 := k30_open h4
  show k30.M w base _ x (List.take (Kd.raw k30.sz).sz (List.drop (j * (Kd.raw k30.sz).sz) inner))
  rw [h2.1, h5]
  exact k30_mkM _ _ _ x
def RelP (B : Nat) (l : List Tri) (v : Value) (W : World) : Prop := ∃ A c, v = .slice A l.length c ∧ Kd.R k30 30 W B (fun _ => True) (.slice A l.length c) l
theorem RelP_ok (B : Nat) (l : List Tri) : BtP 26 (RelP B l) := by
  refine ⟨?_, ?_⟩
  · rintro v W W' ⟨A, c, rfl, h⟩ hb
    exact ⟨A, c, rfl, Kd.R_below h hb⟩
  · rintro v W W' g cs ⟨A, c, rfl, h⟩ hg ho
    exact ⟨A, c, rfl, R_ts h (TS.but (T := [30]) hg (by decide) ho) (by decide)⟩
theorem RelP_one (B : Nat) (l : List Tri) (v : Value) (W : World) (h : RelP B l v W) : v.cells.toList = [v] ∧ v.oneCell' = true := by
  obtain ⟨A, c, rfl, -⟩ := h
  exact ⟨rfl, rfl⟩
theorem RelP_at (p : Pol) (C0 : Array Value) (w W : World) (hk : k28.K w p C0.toList) (hn : OkP p) (hcap : p.f1.length * (p.f3.length * p.f0.length) ≤ 16777216) (hw : Below w.heap.size w W) (B : Nat) (hB : B ≤ W.heap.size) :
    Calls Try.prog 43 #[.agg C0] W fun e W' => ∃ v, e = .returned v ∧ RelP B (relL p) v W' ∧ Below W.heap.size W W' := by
  refine (relation_calls p C0 W (k28.K_below hw hk) hn hcap).mono ?_
  rintro e W' ⟨v, rfl, hN, hb⟩
  obtain ⟨A, c, rfl⟩ := Kd.N_slice hN
  exact ⟨_, rfl, ⟨A, c, rfl, Kd.R_lower (R_of_N hN) hB⟩, hb⟩
def MapP (B : Nat) (l : List Tri) (v : Value) (W : World) : Prop := ∃ m, v = .map (some m) ∧ B ≤ m ∧ Crowd W m l
theorem MapP_ok (B : Nat) (l : List Tri) : BtP 99 (MapP B l) := by
  refine ⟨?_, ?_⟩
  · rintro v W W' ⟨m, rfl, hm, L, hL, h⟩ hb
    exact ⟨m, rfl, hm, L, hL, h.below hb⟩
  · rintro v W W' g cs ⟨m, rfl, hm, L, hL, h⟩ hg ho
    refine ⟨m, rfl, hm, L, hL, h.move (ho m (fun e => ?_))⟩
    obtain ⟨es, cl, hb, _⟩ := h
    rw [e, hg] at hb
    cases hb
theorem MapP_one (B : Nat) (l : List Tri) (v : Value) (W : World) (h : MapP B l v W) : v.cells.toList = [v] ∧ v.oneCell' = true := by
  obtain ⟨m, rfl, -⟩ := h
  exact ⟨rfl, rfl⟩
/-- Blocks from one number to another stand as they were. -/
def keepS (B hi : Nat) (W W' : World) : Prop := ∀ i, B ≤ i → i < hi → W'.heap[i]? = W.heap[i]?
theorem keepS.refl (B hi : Nat) (W : World) : keepS B hi W W := fun _ _ _ => rfl
theorem keepS_t {B hi : Nat} {W W1 W2 : World} (h : keepS B hi W W1) (k : keepS B hi W1 W2) : keepS B hi W W2 := fun i h1 h2 => (k i h1 h2).trans (h i h1 h2)
theorem keepS_below {B hi : Nat} {W W' : World} (h : Below W.heap.size W W') (hh : hi ≤ W.heap.size) : keepS B hi W W' := fun i _ h2 => h.block i (Nat.lt_of_lt_of_le h2 hh)
theorem R_keepS {B hi : Nat} {W W' : World} {v : Value} {l : List Tri} (h : Kd.R k30 30 W B (fun k => k < hi) v l) (hk : keepS B hi W W') : Kd.R k30 30 W' B (fun k => k < hi) v l :=
  Kd.R_mono (Kd.R_step (Kd.R_bound h) (fun k h1 _ => hk k h1.2.1 h1.1)) (fun _ h1 => h1.1)
theorem Crowd_keepS {B hi m : Nat} {W W' : World} {l : List Tri} (h : Crowd W m l) (hk : keepS B hi W W') (h1 : B ≤ m) (h2 : m < hi) : Crowd W' m l := by
  obtain ⟨L, hL, h⟩ := h
  exact ⟨L, hL, h.move (hk m h1 h2)⟩
theorem crowd_lt {m : Nat} {W : World} {l : List Tri} (h : Crowd W m l) : m < W.heap.size := by
  obtain ⟨L, _, es, cl, hb, _⟩ := h
  exact (Array.getElem?_eq_some_iff.1 hb).1
/-- What the iterator has captured: it lies from B to hi. -/
structure Btw (B hi : Nat) (W : World) (g5 g6 g7 g8 mo mn : Nat) (Ao An : Option Addr) (co cn : Nat) (old now : List Tri) : Prop where
  h5 : W.heap[g5]? = some (Obj.cells #[.slice Ao old.length co] 26 (0, 0))
  h6 : W.heap[g6]? = some (Obj.cells #[.slice An now.length cn] 26 (0, 0))
  h7 : W.heap[g7]? = some (Obj.cells #[.map (some mo)] 99 (0, 0))
  h8 : W.heap[g8]? = some (Obj.cells #[.map (some mn)] 99 (0, 0))
  ro : Kd.R k30 30 W B (fun k => k < hi) (.slice Ao old.length co) old
  rn : Kd.R k30 30 W B (fun k => k < hi) (.slice An now.length cn) now
  co_ : Crowd W mo old
  cn_ : Crowd W mn now
  b : B ≤ g5 ∧ B ≤ g6 ∧ B ≤ g7 ∧ B ≤ g8 ∧ B ≤ mo ∧ B ≤ mn
  t : g5 < hi ∧ g6 < hi ∧ g7 < hi ∧ g8 < hi ∧ mo < hi ∧ mn < hi
theorem Btw.keeps {B hi : Nat} {W W' : World} {g5 g6 g7 g8 mo mn : Nat} {Ao An : Option Addr} {co cn : Nat} {old now : List Tri} (h : Btw B hi W g5 g6 g7 g8 mo mn Ao An co cn old now) (hk : keepS B hi W W') : Btw B hi W' g5 g6 g7 g8 mo mn Ao An co cn old now := by
  obtain ⟨b5, b6, b7, b8, bo, bn⟩ := h.b
  obtain ⟨t5, t6, t7, t8, t_o, tn⟩ := h.t
  exact ⟨(hk _ b5 t5).trans h.h5, (hk _ b6 t6).trans h.h6, (hk _ b7 t7).trans h.h7, (hk _ b8 t8).trans h.h8, R_keepS h.ro hk, R_keepS h.rn hk, Crowd_keepS h.co_ hk bo t_o, Crowd_keepS h.cn_ hk bn tn, h.b, h.t⟩
theorem pol_size {W : World} {q : Pol} {C : Array Value} (h : k28.K W q C.toList) : (Try.prog.info? 28).map (·.size) = some C.size := by
  have h2 := k28.K_len h
  rw [Array.length_toList] at h2
  have h3 : (Try.prog.info? 28).map (·.size) = some 11 := by kernel_rfl
  rw [h3, h2]
  rfl
set_option maxRecDepth 100000 in
set_option maxHeartbeats 4000000 in
theorem between_calls (p q : Pol) (C0 D0 : Array Value) (w : World) (hp : k28.K w p C0.toList) (hq : k28.K w q D0.toList) (hnp : OkP p) (hnq : OkP q) (hcp : p.f1.length * (p.f3.length * p.f0.length) ≤ 65536) (hcq : q.f1.length * (q.f3.length * q.f0.length) ≤ 65536) (hlp : (relL p).length ≤ 65536) (hlq : (relL q).length ≤ 65536) :
    Calls Try.prog 31 #[.agg C0, .agg D0] w fun e W => ∃ (g5 g6 g7 g8 mo mn : Nat) (Ao An : Option Addr) (co cn : Nat), e = .returned (.func (.func 79) #[] #[.pointer (some ⟨g5, 0, none⟩), .pointer (some ⟨g8, 0, none⟩), .pointer (some ⟨g6, 0, none⟩), .pointer (some ⟨g7, 0, none⟩)]) ∧ Btw w.heap.size W.heap.size W g5 g6 g7 g8 mo mn Ao An co cn (relL p) (relL q) ∧ Below w.heap.size w W := by
  have HP := Lib.hid hp
  have HQ := Lib.hid hq
  have HSP := Lib.hid (pol_size hp)
  have HSQ := Lib.hid (pol_size hq)
  obtain ⟨CA, hCA⟩ : ∃ C, C = C0 := ⟨_, rfl⟩
  clear hp hq
  go_enter Try.func31, Try.ntmps31
  go_upto_region 1 with (first | ((with_reducible refine gate_dst (N := 2) rfl ?_); refine box_event ?hg (N := 2) ?hd (cs := C0) (t := 28) ?hr ?_; (case hd => rfl); (case hg => rfl); (case hr => first | (go_simp; done) | (go_simp; rfl)); intro b1 hg_ w1 hb1 hB1; clear hg_) | ((with_reducible refine gate_dst (N := 3) rfl ?_); refine box_event ?hg (N := 3) ?hd (cs := D0) (t := 28) ?hr ?_; (case hd => rfl); (case hg => rfl); (case hr => first | (go_simp; done) | (go_simp; rfl)); intro b2 hg_ w2 hb2 hB2; clear hg_))
  have B2 : Below w.heap.size w w2 := hB1.trans (hB2.mono hB1.size)
  have HB2 := Lib.hid B2
  refine bt1 (Pa := RelP w.heap.size (relL p)) (Pb := RelP w.heap.size (relL q)) rfl rfl rfl rfl (blk_below hb1 hB2) hb2 (RelP_ok _ _) (RelP_ok _ _) (RelP_one _ _) (RelP_one _ _) (fun W hW => RelP_at p C0 w W HP.out hnp (by omega) (B2.trans (hW.mono B2.size)) _ (Nat.le_trans B2.size hW.size)) (fun W hW => RelP_at q D0 w W HQ.out hnq (by omega) (B2.trans (hW.mono B2.size)) _ (Nat.le_trans B2.size hW.size)) rfl rfl HSP.out HSQ.out ?_
  rintro xs W hW ⟨g5, e5, hg5, hh5, Ao, co, eo, hRo⟩ ⟨g6, e6, hg6, hh6, An, cn, en, hRn⟩ -
  simp only [putZ, Act.put, List.setIfInBounds_toArray, List.set_cons_zero, List.set_cons_succ, Nat.reduceAdd]
  rw [eo] at hh5
  rw [en] at hh6
  rw [e5, e6]
  have BW : Below w.heap.size w W := B2.trans (hW.mono B2.size)
  have HRo := Lib.hid hRo
  have HRn := Lib.hid hRn
  go_wp2_with fail
  refine bt2 (Pa := MapP w.heap.size (relL p)) (Pb := MapP w.heap.size (relL q)) rfl rfl rfl rfl hh5 hh6 (MapP_ok _ _) (MapP_ok _ _) (MapP_one _ _) (MapP_one _ _) (fun W2 h2 => ?ca) (fun W2 h2 => ?cb) rfl rfl ?_
  case ca =>
    refine (crowded_calls (relL p) Ao co W2 (Kd.C_below (Kd.R_reads' HRo.out).2.2 h2) (Kd.R_reads' HRo.out).2.1 (by omega)).mono ?_
    rintro e W3 ⟨m, rfl, hm, hC, hb⟩
    exact ⟨_, rfl, ⟨m, rfl, Nat.le_trans (Nat.le_trans BW.size h2.size) hm, hC⟩, hb⟩
  case cb =>
    refine (crowded_calls (relL q) An cn W2 (Kd.C_below (Kd.R_reads' HRn.out).2.2 h2) (Kd.R_reads' HRn.out).2.1 (by omega)).mono ?_
    rintro e W3 ⟨m, rfl, hm, hC, hb⟩
    exact ⟨_, rfl, ⟨m, rfl, Nat.le_trans (Nat.le_trans BW.size h2.size) hm, hC⟩, hb⟩
  rintro xs2 W2 hW2 ⟨g7, e7, hg7, hh7, mo, eo2, hmo, hCo⟩ ⟨g8, e8, hg8, hh8, mn, en2, hmn, hCn⟩ -
  simp only [putZ, Act.put, List.setIfInBounds_toArray, List.set_cons_zero, List.set_cons_succ, Nat.reduceAdd]
  rw [eo2] at hh7
  rw [en2] at hh8
  rw [e7, e8]
  go_wp2
  go_ret
  have k5 := blk_below hh5 hW2
  have k6 := blk_below hh6 hW2
  have z := BW.size
  refine ⟨g5, g6, g7, g8, mo, mn, Ao, An, co, cn, rfl, ⟨k5, k6, hh7, hh8, ?_, ?_, hCo, hCn, ⟨?_, ?_, ?_, ?_, hmo, hmn⟩, ⟨blk_lt k5, blk_lt k6, blk_lt hh7, blk_lt hh8, crowd_lt hCo, crowd_lt hCn⟩⟩, BW.trans (hW2.mono BW.size)⟩
  · exact Kd.R_mono (Kd.R_bound (Kd.R_below HRo.out hW2)) (fun k hk => hk.2.2.1)
  · exact Kd.R_mono (Kd.R_bound (Kd.R_below HRn.out hW2)) (fun k hk => hk.2.2.1)
  · exact Nat.le_trans B2.size hg5
  · exact Nat.le_trans B2.size hg6
  · exact Nat.le_trans z hg7
  · exact Nat.le_trans z hg8
end Go.Proofs.Yteefneemmdfncaa.M
