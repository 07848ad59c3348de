import Derived.Test.YteefneemmdfncaaWRaw
import Derived.Test.YteefneemmdfncaaF7
import Derived.Test.YteefneemmdfncaaWMap
import Derived.Test.YteefneemmdfncaaSA
import Derived.Laws.Rows
/- Triples as a map's keys. No condition. -/
namespace Go.Proofs.Yteefneemmdfncaa.M
open Go.RowKit Go.Proofs.YteefneemmdfncaaW.Raw Go.Proofs.YteefneemmdfncaaW.PrintWords Go.Proofs.Yteefneemmdfncaa.F
set_option linter.unusedVariables false
abbrev keyT (t : S30) : Value := .agg #[.string t.f0, .string t.f1, .string t.f2]
def keyE (a b : S30) : Bool := a.f0.toList == b.f0.toList && (a.f1.toList == b.f1.toList && (a.f2.toList == b.f2.toList))
theorem key_tri : Key Try.prog 30 keyT keyE := by
  refine key_asked Try.underlying30 (fun w b x => ?_) (fun x y => rfl) (fun w x y => ?_)
  · have h0 : (part 9 #[Value.string x.f0, Value.string x.f1, Value.string x.f2] 0).run Try.prog w = .ok (.string x.f0) w := by first | (go_simp; done) | (go_simp; rfl)
    have h1 : (part 9 #[Value.string x.f0, Value.string x.f1, Value.string x.f2] 1).run Try.prog w = .ok (.string x.f1) w := by first | (go_simp; done) | (go_simp; rfl)
    have h2 : (part 9 #[Value.string x.f0, Value.string x.f1, Value.string x.f2] 2).run Try.prog w = .ok (.string x.f2) w := by first | (go_simp; done) | (go_simp; rfl)
    have hc : ∀ v : Value, (Instr.checkKey b 9999 9 v).run Try.prog w = .ok () w := fun v => check_plain Try.underlying9 (by simp) (by simp) (by simp) w b 9998
    unfold Instr.checkKey
    simp [run_underlying Try.underlying30, h0, h1, h2, hc, Result.andThen]
  · exact eqA30 9998 w x.f0 y.f0 x.f1 y.f1 x.f2 y.f2
end Go.Proofs.Yteefneemmdfncaa.M
/- diff.crowded, walked: a map whose keys are the list's triples. Condition: the list is not too long. -/
namespace Go.Proofs.Yteefneemmdfncaa.M
open Go.RowKit Go.Proofs.YteefneemmdfncaaW.Raw Go.Proofs.YteefneemmdfncaaW.PrintWords Go.Proofs.Yteefneemmdfncaa.F
set_option linter.unusedVariables false
set_option linter.unusedSimpArgs false
theorem keyE_iff (a b : S30) : keyE a b = true ↔ a = b := by
  unfold keyE
  rw [Bool.and_eq_true, Bool.and_eq_true]
  simp only [← Go.beq_toListBytes, bb]
  constructor
  · rintro ⟨h1, h2, h3⟩
    cases a
    cases b
    simp_all
  · rintro rfl
    exact ⟨rfl, rfl, rfl⟩
/-- The map holds these triples, and no other. -/
def Crowd (W : World) (m : Nat) (l : List S30) : Prop := ∃ L : List S30, (∀ t, t ∈ L ↔ t ∈ l) ∧ IsRaw W m (L.map keyT) (L.map fun _ => unitV)
theorem idx_none {L : List S30} {x : S30} (h : x ∉ L) : L.findIdx? (keyE x) = none := by
  rw [List.findIdx?_eq_none_iff]
  intro y hy
  cases hq : keyE x y with
  | false => rfl
  | true =>
    rw [keyE_iff] at hq
    subst hq
    exact absurd hy h
theorem idx_some {L : List S30} {x : S30} (h : x ∈ L) : ∃ i, L.findIdx? (keyE x) = some i ∧ L[i]? = some x := by
  cases hq : L.findIdx? (keyE x) with
  | none =>
    rw [List.findIdx?_eq_none_iff] at hq
    have := hq x h
    rw [(keyE_iff x x).2 rfl] at this
    cases this
  | some i =>
    obtain ⟨hlt, h1, _⟩ := List.findIdx?_eq_some_iff_getElem.1 hq
    rw [keyE_iff] at h1
    exact ⟨i, rfl, by rw [List.getElem?_eq_getElem hlt, ← h1]⟩
theorem bits_tri (x : S30) : Instr.sameBits 10000 (keyT x) (keyT x) = true := by
  simp [Instr.sameBits, bb]
set_option maxRecDepth 100000 in
set_option maxHeartbeats 2000000 in
theorem crowded_calls (l : List S30) (A : Option Addr) (c : Nat) (w : World) (h : Kd.C k30 w A l.length l) (hc : l.length ≤ c) (hl : l.length ≤ 1048576) :
    Calls Try.prog 78 #[.slice A l.length c] w fun e w' => ∃ m, e = .returned (.map (some m)) ∧ w.heap.size ≤ m ∧ Crowd w' m l ∧ Below w.heap.size w w' := by
  have hmm : ∀ (n : Nat) (w : World), (Instr.makeMap 99 (some (.int .i64 (n : Int)))).run Try.prog w = .ok (.map (some w.heap.size)) (w.alloc (.map #[] 0)) := fun n w => by
    simp [Instr.makeMap, run_underlying Try.underlying99, Result.andThen]
    rfl
  have HC := Lib.hid h
  clear h
  go_enter Try.func78, Try.ntmps78
  go_wp2_with fail
  have hm0 : (w.alloc (Obj.map #[] 0)).heap[w.heap.size]? = some (Obj.map #[] 0) := by show (w.heap.push _)[w.heap.size]? = _; simp
  have hb0 : Below w.heap.size w (w.alloc (Obj.map #[] 0)) := below_alloc (Below.refl _ _) _
  obtain ⟨W0, hW0⟩ : ∃ W, W = w.alloc (Obj.map #[] 0) := ⟨_, rfl⟩
  rw [← hW0] at hm0 hb0 ⊢
  clear hW0
  have HM0 := Lib.hid hm0
  have HB0 := Lib.hid hb0
  clear hm0 hb0
  go_loopw [11] (fun i wr => ∃ (k : Nat) (L : List S30), k ≤ l.length ∧ i = .int .i64 (k : Nat) ∧ Hid (∀ t, t ∈ L ↔ t ∈ l.take k) ∧ IsRaw wr w.heap.size (L.map keyT) (L.map fun _ => unitV) ∧ Below w.heap.size w wr) (fun i _ => l.length - (intOf i).toNat)
  case atStart => exact ⟨0, [], Nat.zero_le _, rfl, Lib.hid (fun t => by simp), ⟨#[], 0, HM0.out, rfl, rfl⟩, HB0.out⟩
  case round =>
    obtain ⟨k, L, hk, rfl, hM, hR, hB⟩ := hrel
    have HR := Lib.hid hR
    have HB := Lib.hid hB
    clear hR hB
    by_cases hlt : k < l.length
    · obtain ⟨ad, eA, c0, c1, c2⟩ := at_T30 (Kd.C_below HC.out HB.out) (k : Int) (by omega) (by omega)
      subst eA
      obtain ⟨x, hx⟩ : ∃ x, x = rd_T30 l (k : Int) := ⟨_, rfl⟩
      rw [← hx, Int.toNat_natCast] at c0 c1 c2
      have hkx : l[k]? = some x := by rw [hx]; simp [rd_T30, List.getD_eq_getElem?_getD, List.getElem?_eq_getElem hlt]
      have htk : l.take (k + 1) = l.take k ++ [x] := by rw [List.take_add_one, hkx]; rfl
      have HTK := Lib.hid htk
      have i0 : (0 : Int) ≤ (k : Int) := by omega
      have i1 : (k : Int) < (l.length : Int) := by omega
      clear hx hkx htk
      by_cases hin : x ∈ L
      · obtain ⟨j, hj, hxj⟩ := idx_some hin
        have HJ := Lib.hid hj
        have HXJ := Lib.hid hxj
        have HIN := Lib.hid hin
        clear hj hxj hin
        go_wp2_with (first | ((with_reducible refine gate_dst (N := 5) rfl ?_); refine box_event ?hg (N := 5) ?hd (cs := #[.string ⟨#[]⟩, .string ⟨#[]⟩, .string ⟨#[]⟩]) (t := 30) ?hr ?_; (case hd => rfl); (case hg => rfl); (case hr => first | (go_simp; done) | (go_simp; rfl)); intro bt hbt_ wt hbt hBt; have hlt5 : wr.heap.size ≤ bt := (by omega); clear hbt_) | ((with_reducible refine gate_ (.store 30 (.tmp 5) (.tmp 14)) rfl ?_); go_must (refine bstore (t := 30) (p := 5) (v := .tmp 14) rfl rfl rfl bt _ #[.string x.f0, .string x.f1, .string x.f2] (.agg #[.string x.f0, .string x.f1, .string x.f2]) rfl rfl rfl hbt (by kernel_rfl) (by simp) (by intro q hq; simp only [List.mem_cons, List.not_mem_nil, or_false] at hq; rcases hq with rfl | rfl | rfl <;> rfl) ?_); intro ws hbs hoth hsz hbel; have HBX := Lib.hid hbs; have hbw := hBt.trans (hbel _ hlt5); have HR2 := Lib.hid (HR.out.below hbw); have HB2 := Lib.hid (HB.out.trans (hbw.mono HB.out.size)); clear hbt hbs hoth hsz hbel hBt hbw) | ((with_reducible refine gate_ (.load 30 (.tmp 5)) rfl ?_); go_must (refine wpList_load_row rfl 30 (.tmp 5) rfl bt rfl _ _ _ _ HBX.out Try.underlying30 rfl (by kernel_rfl) ?_)) | (at_mapUpdate; go_must (refine wpList_over rfl _ _ _ rfl key_tri Try.underlying99 rfl HR2.out x rfl unitV rfl HJ.out HXJ.out (bits_tri x) ?_); intro es cl hraw; have HRW := Lib.hid hraw; clear hraw))
        go_roundw
        case rel =>
          refine ⟨k + 1, L, hlt, by go_num, Lib.hid (fun t => ?_), ?_, below_set_map HB2.out (Nat.le_refl _)⟩
          · rw [HTK.out, List.mem_append, ← hM.out t, List.mem_singleton]
            exact ⟨.inl, fun h => h.elim (fun h => h) (fun h => h ▸ HIN.out)⟩
          · have h2 := HRW.out
            have e : (L.map fun _ => unitV).set j unitV = L.map fun _ => unitV := by
              apply List.ext_getElem
              · simp
              · intro i h1 h2
                rw [List.getElem_set]
                split <;> simp
            rw [e] at h2
            exact h2
        case measure => simp [intOf]; omega
      · have HIN := Lib.hid hin
        clear hin
        go_wp2_with (first | ((with_reducible refine gate_dst (N := 5) rfl ?_); refine box_event ?hg (N := 5) ?hd (cs := #[.string ⟨#[]⟩, .string ⟨#[]⟩, .string ⟨#[]⟩]) (t := 30) ?hr ?_; (case hd => rfl); (case hg => rfl); (case hr => first | (go_simp; done) | (go_simp; rfl)); intro bt hbt_ wt hbt hBt; have hlt5 : wr.heap.size ≤ bt := (by omega); clear hbt_) | ((with_reducible refine gate_ (.store 30 (.tmp 5) (.tmp 14)) rfl ?_); go_must (refine bstore (t := 30) (p := 5) (v := .tmp 14) rfl rfl rfl bt _ #[.string x.f0, .string x.f1, .string x.f2] (.agg #[.string x.f0, .string x.f1, .string x.f2]) rfl rfl rfl hbt (by kernel_rfl) (by simp) (by intro q hq; simp only [List.mem_cons, List.not_mem_nil, or_false] at hq; rcases hq with rfl | rfl | rfl <;> rfl) ?_); intro ws hbs hoth hsz hbel; have HBX := Lib.hid hbs; have hbw := hBt.trans (hbel _ hlt5); have HR2 := Lib.hid (HR.out.below hbw); have HB2 := Lib.hid (HB.out.trans (hbw.mono HB.out.size)); clear hbt hbs hoth hsz hbel hBt hbw) | ((with_reducible refine gate_ (.load 30 (.tmp 5)) rfl ?_); go_must (refine wpList_load_row rfl 30 (.tmp 5) rfl bt rfl _ _ _ _ HBX.out Try.underlying30 rfl (by kernel_rfl) ?_)) | (at_mapUpdate; go_must (refine wpList_new rfl _ _ _ rfl key_tri Try.underlying99 rfl HR2.out x rfl unitV rfl (idx_none HIN.out) ?_); intro es cl hraw; have HRW := Lib.hid hraw; clear hraw))
        go_roundw
        case rel =>
          refine ⟨k + 1, L ++ [x], hlt, by go_num, Lib.hid (fun t => ?_), ?_, below_set_map HB2.out (Nat.le_refl _)⟩
          · rw [HTK.out, List.mem_append, List.mem_append, hM.out t]
          · have h2 := HRW.out
            rw [show (L ++ [x]).map (fun _ => unitV) = L.map (fun _ => unitV) ++ [unitV] by simp]
            exact h2
        case measure => simp [intOf]; omega
    · obtain rfl : k = l.length := by omega
      go_wp2
      go_ret
      refine ⟨_, rfl, Nat.le_refl _, ⟨L, fun t => ?_, HR.out⟩, HB.out⟩
      rw [hM.out t, List.take_length]
end Go.Proofs.Yteefneemmdfncaa.M
