import Derived.Test.YtcoodlncjnekoaaYc
/- JournalActs: the document's Append. Conditions: each theorem's own. -/
namespace Go.Proofs.Ytcoodlncjnekoaa.F
open Go.RowKit Go.Proofs.YtcoodlncjnekoaaW.Raw Go.Proofs.YtcoodlncjnekoaaW.PrintWords Go.Proofs.JournalPlain Go.Proofs.Ytcoodlncjnekoaa.D
set_option linter.unusedVariables false
set_option linter.unusedSimpArgs false
/-- append, at a step of a region that draws: the run is known. -/
theorem step_append_run {P : Program} {ops : Array Oper} {o : Oper} {a : Act} {w w' : World} {K : Act → World → Prop} {Q : Exit → Act → World → Prop} {E : Prop} {v u v' : Value} (hg : o.guard = none) (s x : Operand) (t : TypeId)
    (ho : o.op = .call { callee := .builtin .append, args := #[s, x], argTypes := #[t, t] }) (hs : a.eval s = v) (hx : a.eval x = u) (hr : (Builtin.append_ #[t, t] o.type #[v, u]).run P w = .ok v' w')
    (hK : K (a.put o.dst v') w') : if Region.wanted o (yielded ops a.tmps) = true then Oper.wp P o a w K Q else E := by
  have hw : Region.wanted o (yielded ops a.tmps) = true := by simp [Region.wanted, hg]
  rw [if_pos hw]
  unfold Oper.wp execOp
  simp only [ho, resolve, invoke, builtin, Sem.run_bind, Sem.run_pure, Result.andThen_ok, List.map_toArray, List.map_cons, List.map_nil, hs, hx, hr]
  exact hK
/-- append, in a region that does not draw: the run is known. -/
theorem list_append_run {P : Program} {ops : Array Oper} {rest : List Oper} {o : Oper} {a : Act} {Q : Exit → Act → World → Prop} {w w' : World} {v u v' : Value} (hgd : o.guard = none) (s x : Operand) (t : TypeId)
    (ho : o.op = .call { callee := .builtin .append, args := #[s, x], argTypes := #[t, t] }) (hs : a.eval s = v) (hx : a.eval x = u) (hr : (Builtin.append_ #[t, t] o.type #[v, u]).run P w = .ok v' w')
    (h : wpList P ops Q rest (a.put o.dst v') w') : wpList P ops Q (o :: rest) a w := by
  refine wpList_plain hgd fun K hK => ?_
  unfold Oper.wp execOp
  simp only [ho, resolve, invoke, builtin, Sem.run_bind, Sem.run_pure, Result.andThen_ok, List.map_toArray, List.map_cons, List.map_nil, hs, hx, hr]
  exact hK _ _ h
section
variable {W : World} {B t : Nat} {gp jp L : Value} {T y : ByteArray} {room safe x : Int} {es : List S23}
set_option maxRecDepth 100000 in
theorem rappend_not (c : Int) (hc : c = 3 ∨ c = 5) (hy : y.size ≤ 140737488351232) (hf : frame x y = ((⟨#[]⟩ : ByteArray), c)) :
    Calls Try.prog 62 #[.pointer (some ⟨t, 2, none⟩), .agg #[.int .i64 x, .string y]] W fun e W' => e = .returned (.int .i64 c) ∧ Below W.heap.size W W' := by
  have CR := Lib.hid (fun W => gatehouseref22_Frame.calls (KR y) x y ⟨#[]⟩ c W (by rw [RefFrame_f _ _ _ (Nat.le_refl _), hf]))
  have hc0 : (c == 0) = false := beq_eq_false_iff_ne.2 (by omega)
  have hc1 : (c != 0) = true := by simp; omega
  clear hf
  go_enter Try.func62, Try.ntmps62
  go_wp2_with ((with_reducible refine gate_dst (N := 3) rfl ?_); refine box_event rfl (N := 3) rfl (cs := #[.int .i64 x, .string y]) (t := 23) ?hr ?_; (case hr => first | (go_simp; done) | (go_simp; rfl)); intro g0 hg w1 hb0 hbel; have HB := Lib.hid hbel; have BK0 := Lib.hid hb0; obtain ⟨a0, a1⟩ := cells23 hb0 (Below.refl _ _); clear hg hb0 hbel)
  refine (CR.out _).mono ?_
  rintro e w2 ⟨rfl, hb⟩
  have HB2 := Lib.hid (below_step HB.out hb)
  clear hb a0 a1
  go_wp2_with fail
  go_ret
  exact ⟨rfl, HB2.out⟩
set_option maxRecDepth 100000 in
theorem rappend_full (hb : W.heap[t]? = some (.cells #[gp, jp, .string T, .int .i64 room, .int .i64 safe, L] 82 (0, 0))) (hf : fit_ x y) (h0 : 0 ≤ room) (h1 : (T.size : Int) ≤ room) (h2 : room ≤ 1048576) (hn : ¬ ((frameB x y).size : Int) ≤ room - T.size) :
    Calls Try.prog 62 #[.pointer (some ⟨t, 2, none⟩), .agg #[.int .i64 x, .string y]] W fun e W' => e = .returned (.int .i64 210) ∧ Below W.heap.size W W' := by
  obtain ⟨S, hS⟩ : ∃ S, S = frameB x y := ⟨_, rfl⟩
  have hSz : S.size ≤ 65553 := by rw [hS, frameB_size]; have := hf.2.2; omega
  have CR := Lib.hid (fun W => gatehouseref22_Frame.calls (KR y) x y S 0 W (by rw [RefFrame_f _ _ _ (Nat.le_refl _), frame_fit hf, hS]))
  rw [← hS] at hn
  have HT := Lib.hid hb
  have mixed := mixed
  have hgt : (T.size : Int) + (S.size : Int) > room := by omega
  have hws : wrap64 ((T.size : Int) + (S.size : Int)) = (T.size : Int) + (S.size : Int) := by unfold wrap64; omega
  have hwi : IntKind.i64.wrap ((T.size : Int) + (S.size : Int)) = (T.size : Int) + (S.size : Int) := by rw [IntKind.wrap_i64]; omega
  have hd : decide (room < (T.size : Int) + (S.size : Int)) = true := decide_eq_true hgt
  clear hb hf h0 h1 h2 hn hS
  go_enter Try.func62, Try.ntmps62
  go_wp2_with ((with_reducible refine gate_dst (N := 3) rfl ?_); refine box_event rfl (N := 3) rfl (cs := #[.int .i64 x, .string y]) (t := 23) ?hr ?_; (case hr => first | (go_simp; done) | (go_simp; rfl)); intro g0 hg w1 hb0 hbel; have HB := Lib.hid hbel; have BK0 := Lib.hid hb0; obtain ⟨a0, a1⟩ := cells23 hb0 (Below.refl _ _); clear hg hb0 hbel)
  refine (CR.out _).mono ?_
  rintro e w2 ⟨rfl, hb⟩
  have HB2 := Lib.hid (below_step HB.out hb)
  clear hb a0 a1
  have hk := (HB2.out.block _ (lt_blk HT.out)).trans HT.out
  have c2 : w2.cell? ⟨t, 2, none⟩ = some (.string T) := cells_at hk 2
  have c3 : w2.cell? ⟨t, 3, none⟩ = some (.int .i64 room) := cells_at hk 3
  clear hk
  go_wp2_with fail
  go_quiet (fail)
  go_wp2_with fail
  go_ret
  exact ⟨rfl, HB2.out.trans (drewN_below _ _ _)⟩
set_option maxHeartbeats 1000000 in
set_option maxRecDepth 100000 in
theorem rappend_ok (hb : W.heap[t]? = some (.cells #[gp, jp, .string T, .int .i64 room, .int .i64 safe, L] 82 (0, 0))) (hr : Rt W B L es) (hl : es.length ≤ 1200000) (ht : B ≤ t) (hf : fit_ x y) (h0 : 0 ≤ room) (h1 : (T.size : Int) ≤ room) (h2 : room ≤ 1048576) (hn : ((frameB x y).size : Int) ≤ room - T.size) :
    Calls Try.prog 62 #[.pointer (some ⟨t, 2, none⟩), .agg #[.int .i64 x, .string y]] W fun e W' => e = .returned (.int .i64 0) ∧ ∃ L', W'.heap[t]? = some (.cells #[gp, jp, .string (T ++ frameB x y), .int .i64 room, .int .i64 safe, L'] 82 (0, 0)) ∧ Rt W' B L' (es ++ [(⟨x, y⟩ : S23)]) ∧
      (∀ i, i < W.heap.size → i ≠ t → L.ownBlock ≠ some i → W'.heap[i]? = W.heap[i]?) ∧ Below B W W' ∧ (L'.ownBlock = L.ownBlock ∨ ∃ b, L'.ownBlock = some b ∧ W.heap.size ≤ b) := by
  obtain ⟨S, hS⟩ : ∃ S, S = frameB x y := ⟨_, rfl⟩
  have hSz : S.size ≤ 65553 := by rw [hS, frameB_size]; have := hf.2.2; omega
  have CR := Lib.hid (fun W => gatehouseref22_Frame.calls (KR y) x y S 0 W (by rw [RefFrame_f _ _ _ (Nat.le_refl _), frame_fit hf, hS]))
  rw [← hS] at hn ⊢
  obtain ⟨A, cc, rfl⟩ := Kd.R_slice hr
  have HT := Lib.hid hb
  have HR := Lib.hid hr
  have HL := Lib.hid (show es.length ≤ 2000000 by omega)
  have HTB := Lib.hid ht
  have HBW := Lib.hid (Nat.le_trans ht (Nat.le_of_lt (lt_blk hb)))
  have mixed := mixed
  have hgt : ¬ room < (T.size : Int) + (S.size : Int) := by omega
  have hws : wrap64 ((T.size : Int) + (S.size : Int)) = (T.size : Int) + (S.size : Int) := by unfold wrap64; omega
  have hwi : IntKind.i64.wrap ((T.size : Int) + (S.size : Int)) = (T.size : Int) + (S.size : Int) := by rw [IntKind.wrap_i64]; omega
  have hd : decide (room < (T.size : Int) + (S.size : Int)) = false := decide_eq_false hgt
  have hbig : ¬ 9223372036854775807 < T.size + S.size := by omega
  clear hb hr hl ht hf h0 h1 h2 hn hS
  go_enter Try.func62, Try.ntmps62
  go_wp2_with ((with_reducible refine gate_dst (N := 3) rfl ?_); refine box_event rfl (N := 3) rfl (cs := #[.int .i64 x, .string y]) (t := 23) ?hr ?_; (case hr => first | (go_simp; done) | (go_simp; rfl)); intro g0 hg w1 hb0 hbel; have HB := Lib.hid hbel; have HG0 := Lib.hid (show W.heap.size ≤ g0 by rw [hg]; exact Nat.le_refl _); have BK0 := Lib.hid hb0; obtain ⟨a0, a1⟩ := cells23 hb0 (Below.refl _ _); clear hg hb0 hbel)
  refine (CR.out _).mono ?_
  rintro e w2 ⟨rfl, hb⟩
  have HB2 := Lib.hid (below_step HB.out hb)
  have BK2 := Lib.hid (blk_below BK0.out hb)
  clear hb a0 a1
  have hk := (HB2.out.block _ (lt_blk HT.out)).trans HT.out
  have HK2 := Lib.hid hk
  have c2 : w2.cell? ⟨t, 2, none⟩ = some (.string T) := cells_at hk 2
  have c3 : w2.cell? ⟨t, 3, none⟩ = some (.int .i64 room) := cells_at hk 3
  have f2 := fz_at hk 2
  clear hk
  go_wp2_with fail
  go_quiet (fail)
  go_wp2_with fail
  have hk6 := blk_put (w := w2.drewN nq) (cs' := #[gp, jp, .string (T ++ S), .int .i64 room, .int .i64 safe, .slice A es.length cc]) HK2.out 2 (.string (T ++ S)) rfl
  have hb6 : Below B W ((w2.drewN nq).setCell ⟨t, 2, none⟩ (.string (T ++ S))) := ((below_weak HB2.out HBW.out).trans (drewN_below _ _ _)).setCell (p := ⟨t, 2, none⟩) HTB.out _
  have ho6 : ∀ i, i < W.heap.size → i ≠ t → ((w2.drewN nq).setCell ⟨t, 2, none⟩ (.string (T ++ S))).heap[i]? = W.heap[i]? := fun i hi hne => (Below.heap_setCell _ _ _ _ hne).trans (HB2.out.block i hi)
  have hg6 : ((w2.drewN nq).setCell ⟨t, 2, none⟩ (.string (T ++ S))).heap[g0]? = some (.cells #[.int .i64 x, .string y] 23 (0, 0)) := (Below.heap_setCell _ _ _ _ (by have := lt_blk HT.out; have := HG0.out; show g0 ≠ t; omega)).trans BK2.out
  revert hk6 hb6 ho6 hg6
  generalize (w2.drewN nq).setCell ⟨t, 2, none⟩ (.string (T ++ S)) = w6
  intro hk6 hb6 ho6 hg6
  have hr6 : Rt w6 B (.slice A es.length cc) es := HR.out.keep fun k hk hlt => ho6 k hlt (by
    obtain ⟨c, h⟩ := Kd.R_typed HR.out k hk
    exact typ_diff h HT.out (by decide))
  obtain ⟨L', w7, hrun, hr7, hb7, hg7, hat7⟩ := app23 w6.drew B (.slice A es.length cc) es x y (hr6.below (below_drew (Below.refl _ _))) (by show B ≤ w6.heap.size; exact Nat.le_trans HBW.out hb6.size) HL.out
  have hL7 : L'.ownBlock = (Value.slice A es.length cc).ownBlock ∨ ∃ b, L'.ownBlock = some b ∧ w6.heap.size ≤ b := by
    rcases hat7 with ⟨g1, n1, c1, e1, e2⟩ | ⟨_, b, e1, e2⟩
    · left; rw [e1, e2]; rfl
    · exact .inr ⟨b, e1, e2⟩
  have hk7 : w7.heap[t]? = some (.cells #[gp, jp, .string (T ++ S), .int .i64 room, .int .i64 safe, .slice A es.length cc] 82 (0, 0)) := (hg7.block t (lt_blk hk6) (fun e => by
    obtain ⟨c, h⟩ := Kd.R_typed hr6 t e.symm
    exact typ_diff h hk6 (by decide) rfl)).trans hk6
  obtain ⟨A7, c7, hv7⟩ := Kd.R_slice hr7
  generalize (es ++ [(⟨x, y⟩ : S23)]).length = n7 at hv7
  subst hv7
  have a0 : w6.drew.cell? ⟨g0, 0, none⟩ = some (.int .i64 x) := cells_at (w := w6.drew) hg6 0
  have a1 : w6.drew.cell? ⟨g0, 1, none⟩ = some (.string y) := cells_at (w := w6.drew) hg6 1
  have c5 : w6.drew.cell? ⟨t, 5, none⟩ = some (.slice A es.length cc) := cells_at (w := w6.drew) hk6 5
  have c5a : (w6.alloc (.cells #[.int .i64 x, .string y] 23)).cell? ⟨t, 5, none⟩ = some (.slice A es.length cc) := cells_at (((World.grownBy_alloc w6 _ none).block t (lt_blk hk6) (by simp)).trans hk6) 5
  have d5 : w7.cell? ⟨t, 5, none⟩ = some (.slice A es.length cc) := cells_at hk7 5
  have e5 := fz_at hk7 5
  have RUN := Lib.hid hrun
  have HK7 := Lib.hid hk7
  have HR7 := Lib.hid hr7
  have HG7 := Lib.hid hg7
  have HL7 := Lib.hid hL7
  have HB6 := Lib.hid hb6
  have HO6 := Lib.hid ho6
  have HB7 := Lib.hid hb7
  clear hrun hk7 hr7 hg7 hL7 hat7 hb6 ho6 hg6 hk6 hr6 hb7
  go_region_law (refine step_append_run rfl (.tmp 45) (.tmp 47) 28 rfl rfl rfl RUN.out ?_)
  all_goals
    go_wp2_with fail
    go_ret
    exact ⟨rfl, .slice A7 n7 c7, blk_put HK7.out 5 (.slice A7 n7 c7) rfl, HR7.out.keep (fun k hk hlt => Below.heap_setCell _ _ _ _ (by
        obtain ⟨c, h⟩ := Kd.R_typed HR7.out k hk
        exact typ_diff h HK7.out (by decide))), fun i hi hne hno => (Below.heap_setCell _ _ _ _ hne).trans ((HG7.out.block i (Nat.lt_of_lt_of_le hi HB6.out.size) (fun e => hno e.symm)).trans (HO6.out i hi hne)), (HB6.out.trans ((below_drew (Below.refl _ _)).trans HB7.out)).setCell (p := ⟨t, 5, none⟩) HTB.out _, HL7.out.imp id (fun ⟨b, e1, e2⟩ => ⟨b, e1, Nat.le_trans HB6.out.size e2⟩)⟩
end
end Go.Proofs.Ytcoodlncjnekoaa.F
