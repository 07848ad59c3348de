import Derived.Test.YtcoodlncjnekoaaYg
/- JournalActs: one act. Conditions: each theorem's own. -/
namespace Go.Proofs.Ytcoodlncjnekoaa.F
open Go.RowKit Go.Proofs.YtcoodlncjnekoaaW.Raw Go.Proofs.YtcoodlncjnekoaaW.PrintWords Go.Proofs.JournalPlain Go.Proofs.Ytcoodlncjnekoaa.D
set_option linter.unusedVariables false
set_option linter.unusedSimpArgs false
theorem own_other {W : World} {B b : Nat} {L : Value} {es : List S23} {cs : Array Value} {ty : TypeId} {fr : Nat × Nat} (h : Rt W B L es) (hk : W.heap[b]? = some (.cells cs ty fr)) (hty : ty ≠ 23) : L.ownBlock ≠ some b := fun e => by
  obtain ⟨c, h3⟩ := Kd.R_typed h b e
  exact typ_diff h3 hk (fun e => hty e.symm) rfl
section
variable {B : Nat} {F : Nat → Prop} {W0 W W1 : World} {t g j : Nat} {v v' : Value} {room safe ver : Int} {T txt : ByteArray} {any : Bool} {T2 : ByteArray} {safe2 : Int} {L : Value} {es : List S23}
/-- The document's disk is safe. -/
theorem Md.ssafe (h : Md B F W0 W t g j v room safe ver T txt any T2 safe2 L es) (s : Int) : Md B F W0 (W.setCell ⟨t, 4, none⟩ (.int .i64 s)) t g j v room safe ver T txt any T2 s L es :=
  { h with blk := blk_put (cs' := #[.pointer (some ⟨g, 0, none⟩), .pointer (some ⟨j, 0, none⟩), .string T2, .int .i64 room, .int .i64 s, L]) h.blk 4 (.int .i64 s) rfl, d := h.d.set h.blk (by decide) (by decide) 4 _, jn := (Below.heap_setCell _ _ _ _ (typ_diff h.jn h.blk (by decide))).trans h.jn, row := rt_set h.row h.blk (by decide) 4 _, k := h.k.setCell (p := ⟨t, 4, none⟩) (.inl h.ft) _, b := h.b.setCell (p := ⟨t, 4, none⟩) h.t0 _ }
/-- The disk too. -/
theorem Md.synced (h : Md B F W0 W t g j v room safe ver T txt any T (T.size : Int) L es) (hd : Dk W1 B g v room T.size T) (hl : D.Left W W1 B g v) (hj : Jn W1 j g ver txt any) : Md B F W0 W1 t g j v room (T.size : Int) ver T txt any T (T.size : Int) L es :=
  { h with blk := hl.keep h.d h.blk (by decide) (by decide), d := hd, jn := hj, row := rt_left h.d hl h.row, k := h.k.then_ (kept_left2 hl h.fd) (fun _ h => .inl h), b := h.b.trans hl.1 }
theorem Md.drew (h : Md B F W0 W t g j v room safe ver T txt any T2 safe2 L es) : Md B F W0 W.drew t g j v room safe ver T txt any T2 safe2 L es := h.below (below_drew (Below.refl _ _))
theorem fits_fin {x : Int} {y : ByteArray} {v1 : Value} {L' : Value} (h : Aq B F W0 W t g j v room safe ver T txt L es) (hf : fit_ x y) (hn : ((frameB x y).size : Int) ≤ room - T.size) (h2 : Md B F W0 W1 t g j v1 room safe x (T ++ frameB x y) y true (T ++ frameB x y) safe L' (es ++ [(⟨x, y⟩ : S23)])) : Aq B F W0 W1 t g j v1 room safe x (T ++ frameB x y) y L' (es ++ [(⟨x, y⟩ : S23)]) := by
  have hl : (es ++ [(⟨x, y⟩ : S23)]).length = es.length + 1 := by simp
  have hsz : (T ++ frameB x y).size = T.size + (frameB x y).size := ByteArray.size_append
  have hrd : rd_T23 (es ++ [(⟨x, y⟩ : S23)]) (((es ++ [(⟨x, y⟩ : S23)]).length : Int) - 1) = (⟨x, y⟩ : S23) := by
    rw [hl]
    have : (((es.length + 1 : Nat) : Int) - 1).toNat = es.length := by omega
    unfold rd_T23
    rw [this]
    simp [List.getD_eq_getElem?_getD]
  have := frameB_size x y
  have := h.a.n
  exact h2.fin (by rw [hl]; simp) (fun _ => by rw [hrd]; exact ⟨rfl, rfl⟩) (fun e => by omega) h.a.r0 (by omega) h.a.r2 (by omega)
end
set_option maxRecDepth 100000 in
theorem act_dead {B : Nat} {f : Nat → Prop} {W : World} {t : Nat} {cs : Array Value} (hf : f t) (hB : B ≤ t) (hb : W.heap[t]? = some (.cells cs 82 (0, 0))) (hc : cs[1]? = some (.pointer none)) (dk x : Int) (y : ByteArray) :
    Calls Try.prog 41 #[.pointer (some ⟨t, 0, none⟩), .agg #[.int .i64 dk, .int .i64 x, .string y]] W fun e W' => e = .returned (.bool true) ∧ TQ B f W t W' := by
  have H0 := Lib.hid hb
  have HC := Lib.hid hc
  have HF := Lib.hid (And.intro hf hB)
  clear hf hB hb hc
  go_enter Try.func41, Try.ntmps41
  go_wp2_with ((with_reducible refine gate_dst (N := 3) rfl ?_); refine box_event rfl (N := 3) rfl (cs := #[.int .i64 dk, .int .i64 x, .string y]) (t := 76) ?hr ?_; (case hr => first | (go_simp; done) | (go_simp; rfl)); intro b3 hg_ w1 hb3 hB1; have HL3 := Lib.hid (show W.heap.size ≤ b3 from by rw [hg_]; exact Nat.le_refl _); clear hg_; have HB1 := Lib.hid hB1; have c1 : w1.cell? ⟨t, 1, none⟩ = some (.pointer none) := (cells_at ((hB1.block _ (lt_blk H0.out)).trans H0.out) 1).trans HC.out; have K3 := Lib.hid hb3; have o0 : w1.cell? ⟨b3, 0, none⟩ = some (.int .i64 dk) := cells_at hb3 0;  clear hb3 hB1)
  go_ret
  exact ⟨rfl, f, .inl ⟨HF.out.1, HF.out.2, cs, (HB1.out.block _ (lt_blk H0.out)).trans H0.out, HC.out⟩, fun k hk => .inl hk, kept_below2 HB1.out, HB1.out.mono (Nat.le_trans HF.out.2 (Nat.le_of_lt (lt_blk H0.out)))⟩

set_option maxHeartbeats 1000000 in
set_option maxRecDepth 100000 in
theorem act_else {B : Nat} {f : Nat → Prop} {W : World} {t g j : Nat} {v : Value} {room safe ver : Int} {T txt : ByteArray} {L : Value} {es : List S23} (h : Al B f W t g j v room safe ver T txt L es) (dk x : Int) (y : ByteArray) (h1 : dk ≠ 1) (h2 : dk ≠ 2) (h3 : dk ≠ 3) (h4 : dk ≠ 4) :
    Calls Try.prog 41 #[.pointer (some ⟨t, 0, none⟩), .agg #[.int .i64 dk, .int .i64 x, .string y]] W fun e W' => e = .returned (.bool true) ∧ TQ B f W t W' := by
  have hk1 : (dk == 1) = false := beq_eq_false_iff_ne.2 h1
  have hk2 : (dk == 2) = false := beq_eq_false_iff_ne.2 h2
  have hk3 : (dk == 3) = false := beq_eq_false_iff_ne.2 h3
  have hk4 : (dk == 4) = false := beq_eq_false_iff_ne.2 h4
  have H0 := Lib.hid h
  clear h h1 h2 h3 h4
  go_enter Try.func41, Try.ntmps41
  go_wp2_with (first
    | ((with_reducible refine gate_dst (N := 3) rfl ?_); refine box_event rfl (N := 3) rfl (cs := #[.int .i64 dk, .int .i64 x, .string y]) (t := 76) ?hr ?_; (case hr => first | (go_simp; done) | (go_simp; rfl)); intro b3 hg_ w1 hb3 hB1; have HL3 := Lib.hid (show W.heap.size ≤ b3 from by rw [hg_]; exact Nat.le_refl _); clear hg_; have hA1 := (Aq.start H0.out).below hB1; have c1 : w1.cell? ⟨t, 1, none⟩ = some (.pointer (some ⟨j, 0, none⟩)) := hA1.a.c1; have HA1 := Lib.hid hA1.new; clear hA1; have K3 := Lib.hid hb3; have o0 : w1.cell? ⟨b3, 0, none⟩ = some (.int .i64 dk) := cells_at hb3 0;  clear hb3 hB1)
    | (go_at_call 42; refine (looks_calls HA1.out).mono ?_; rintro e w9 ⟨rfl, hq⟩; have HQ9 := Lib.hid hq; clear hq))
  go_ret
  exact ⟨rfl, tq_new ⟨_, .inr ⟨_, _, _, _, _, _, _, _, _, _, HQ9.out.a⟩, fun k hk => .inl hk, HQ9.out.k, HQ9.out.b⟩⟩

set_option maxHeartbeats 1000000 in
set_option maxRecDepth 100000 in
theorem act_open {B : Nat} {f : Nat → Prop} {W : World} {t g j : Nat} {v : Value} {room safe ver : Int} {T txt : ByteArray} {L : Value} {es : List S23} (h : Al B f W t g j v room safe ver T txt L es) (dk x : Int) (y : ByteArray) (hdk : dk = 4) :
    Calls Try.prog 41 #[.pointer (some ⟨t, 0, none⟩), .agg #[.int .i64 dk, .int .i64 x, .string y]] W fun e W' => e = .returned (.bool true) ∧ TQ B f W t W' := by
  have hk1 : (dk == 1) = false := beq_eq_false_iff_ne.2 (by omega)
  have hk2 : (dk == 2) = false := beq_eq_false_iff_ne.2 (by omega)
  have hk3 : (dk == 3) = false := beq_eq_false_iff_ne.2 (by omega)
  have hk4 : (dk == 4) = true := beq_iff_eq.2 hdk
  have H0 := Lib.hid h
  clear h hdk
  go_enter Try.func41, Try.ntmps41
  go_wp2_with (first
    | ((with_reducible refine gate_dst (N := 3) rfl ?_); refine box_event rfl (N := 3) rfl (cs := #[.int .i64 dk, .int .i64 x, .string y]) (t := 76) ?hr ?_; (case hr => first | (go_simp; done) | (go_simp; rfl)); intro b3 hg_ w1 hb3 hB1; have HL3 := Lib.hid (show W.heap.size ≤ b3 from by rw [hg_]; exact Nat.le_refl _); clear hg_; have hA1 := (Aq.start H0.out).below hB1; have c1 : w1.cell? ⟨t, 1, none⟩ = some (.pointer (some ⟨j, 0, none⟩)) := hA1.a.c1; have HA1 := Lib.hid hA1.new; clear hA1; have K3 := Lib.hid hb3; have o0 : w1.cell? ⟨b3, 0, none⟩ = some (.int .i64 dk) := cells_at hb3 0;  clear hb3 hB1)
    | (go_at_call 61; refine (open_calls HA1.out.a.blk HA1.out.a.d HA1.out.a.t0 HA1.out.a.ft HA1.out.a.fd HA1.out.a.r0 HA1.out.a.r1 HA1.out.a.r2).mono ?_; rintro e w9 ⟨rfl, hq⟩; have HQ9 := Lib.hid hq; clear hq))
  go_ret
  refine ⟨rfl, tq_new ?_⟩
  obtain ⟨f', h1, h2, h3, h4⟩ := HQ9.out
  exact ⟨f', h1, fun k hk => (h2 k hk).imp id (fun h => Nat.le_trans HA1.out.k.1 h), HA1.out.k.then_ h3 (fun k h => .inl h), HA1.out.b.trans h4⟩

set_option maxHeartbeats 1000000 in
set_option maxRecDepth 100000 in
theorem act_sync {B : Nat} {f : Nat → Prop} {W : World} {t g j : Nat} {v : Value} {room safe ver : Int} {T txt : ByteArray} {L : Value} {es : List S23} (h : Al B f W t g j v room safe ver T txt L es) (dk x : Int) (y : ByteArray) (hdk : dk = 2) :
    Calls Try.prog 41 #[.pointer (some ⟨t, 0, none⟩), .agg #[.int .i64 dk, .int .i64 x, .string y]] W fun e W' => e = .returned (.bool true) ∧ TQ B f W t W' := by
  have hk1 : (dk == 1) = false := beq_eq_false_iff_ne.2 (by omega)
  have hk2 : (dk == 2) = true := beq_iff_eq.2 hdk
  have H0 := Lib.hid h
  clear h hdk
  go_enter Try.func41, Try.ntmps41
  go_wp2_with (first
    | ((with_reducible refine gate_dst (N := 3) rfl ?_); refine box_event rfl (N := 3) rfl (cs := #[.int .i64 dk, .int .i64 x, .string y]) (t := 76) ?hr ?_; (case hr => first | (go_simp; done) | (go_simp; rfl)); intro b3 hg_ w1 hb3 hB1; have HL3 := Lib.hid (show W.heap.size ≤ b3 from by rw [hg_]; exact Nat.le_refl _); clear hg_; have hA1 := (Aq.start H0.out).below hB1; have c1 : w1.cell? ⟨t, 1, none⟩ = some (.pointer (some ⟨j, 0, none⟩)) := hA1.a.c1; have HA1 := Lib.hid hA1.new; clear hA1; have K3 := Lib.hid hb3; have o0 : w1.cell? ⟨b3, 0, none⟩ = some (.int .i64 dk) := cells_at hb3 0; have c2 : w1.cell? ⟨t, 2, none⟩ = some (.string T) := HA1.out.a.c2; have c4 : w1.cell? ⟨t, 4, none⟩ = some (.int .i64 safe) := HA1.out.a.c4; have f4 := fz_at HA1.out.a.blk 4; clear hb3 hB1)
    | (go_at_call 45; have hM2 : Md B (fnew W f) W _ t g j v room safe ver T txt (decide (0 < es.length)) T (T.size : Int) L es := (HA1.out.md).ssafe (T.size : Int); refine (jsync hM2.d hM2.jn).mono ?_; rintro e w3 ⟨rfl, hd3, hl3, hj3⟩; have HA3 := Lib.hid ((hM2.synced hd3 hl3 hj3).fin rfl HA1.out.a.last HA1.out.a.zero HA1.out.a.r0 HA1.out.a.r1 HA1.out.a.r2 HA1.out.a.n); clear hd3 hl3 hj3 hM2 c1 c2 c4 f4)
    | (go_at_call 42; refine (looks_calls HA3.out).mono ?_; rintro e w9 ⟨rfl, hq⟩; have HQ9 := Lib.hid hq; clear hq))
  go_ret
  exact ⟨rfl, tq_new ⟨_, .inr ⟨_, _, _, _, _, _, _, _, _, _, HQ9.out.a⟩, fun k hk => .inl hk, HQ9.out.k, HQ9.out.b⟩⟩

set_option maxHeartbeats 1000000 in
set_option maxRecDepth 100000 in
theorem act_last {B : Nat} {f : Nat → Prop} {W : World} {t g j : Nat} {v : Value} {room safe ver : Int} {T txt : ByteArray} {L : Value} {es : List S23} (h : Al B f W t g j v room safe ver T txt L es) (dk x : Int) (y : ByteArray) (hdk : dk = 3) :
    Calls Try.prog 41 #[.pointer (some ⟨t, 0, none⟩), .agg #[.int .i64 dk, .int .i64 x, .string y]] W fun e W' => e = .returned (.bool true) ∧ TQ B f W t W' := by
  have hk1 : (dk == 1) = false := beq_eq_false_iff_ne.2 (by omega)
  have hk2 : (dk == 2) = false := beq_eq_false_iff_ne.2 (by omega)
  have hk3 : (dk == 3) = true := beq_iff_eq.2 hdk
  have H0 := Lib.hid h
  have HRL := Lib.hid (fun (W' : World) (h : Al B (fnew W f) W' t g j v room safe ver T txt L es) => h.rlast)
  have HJL := Lib.hid (fun (W' : World) (h : Al B (fnew W f) W' t g j v room safe ver T txt L es) => jlast h.jn)
  obtain ⟨any, hany⟩ : ∃ any, any = decide (0 < es.length) := ⟨_, rfl⟩
  rw [← hany] at HRL HJL
  have hx1 := bytes_same txt
  have hx2 := bytes_same2 txt
  have hv1 : (ver == ver) = true := beq_self_eq_true _
  have ha1 : (any == any) = true := beq_self_eq_true _
  clear h hdk hany
  go_enter Try.func41, Try.ntmps41
  go_wp2_with (first
    | ((with_reducible refine gate_dst (N := 3) rfl ?_); refine box_event rfl (N := 3) rfl (cs := #[.int .i64 dk, .int .i64 x, .string y]) (t := 76) ?hr ?_; (case hr => first | (go_simp; done) | (go_simp; rfl)); intro b3 hg_ w1 hb3 hB1; have HL3 := Lib.hid (show W.heap.size ≤ b3 from by rw [hg_]; exact Nat.le_refl _); clear hg_; have hA1 := (Aq.start H0.out).below hB1; have c1 : w1.cell? ⟨t, 1, none⟩ = some (.pointer (some ⟨j, 0, none⟩)) := hA1.a.c1; have HA1 := Lib.hid hA1.new; clear hA1; have K3 := Lib.hid hb3; have o0 : w1.cell? ⟨b3, 0, none⟩ = some (.int .i64 dk) := cells_at hb3 0;  clear hb3 hB1)
    | (go_at_call 46; refine (HJL.out _ HA1.out.a).mono ?_; rintro e w2 ⟨rfl, hb⟩; have HA2 := Lib.hid (HA1.out.below hb); clear hb c1)
    | ((with_reducible refine gate_dst (N := 6) rfl ?_); go_loud (refine box_event rfl (N := 6) rfl (cs := #[.int .i64 0, .string ⟨#[]⟩]) (t := 23) ?hr ?_; (case hr => first | (go_simp; done) | (go_simp; rfl))); intro b6 hg_ w3 hb2 hB2; have HL6 := Lib.hid (show w2.heap.size ≤ b6 from by rw [hg_]; exact Nat.le_refl _); clear hg_; have HB6 := Lib.hid hB2; have KK6 := Lib.hid hb2; clear hb2 hB2)
    | ((with_reducible refine gate_ (.store 23 (.tmp 6) (.tmp 62)) rfl ?_); go_loud (refine bstore (t := 23) (p := 6) (v := .tmp 62) rfl rfl rfl b6 _ #[.int .i64 ver, .string txt] (.agg #[.int .i64 ver, .string txt]) rfl rfl rfl KK6.out (by kernel_rfl) rfl (by simp [Value.oneCell']) ?_); intro w4 hb4 hs4 hz4 hB4; have K6 := Lib.hid hb4; have HA4 := Lib.hid (HA2.out.below (HB6.out.trans (hB4 _ HL6.out))); clear hb4 hs4 hz4 hB4)
    | (go_at_call 63; refine (HRL.out _ HA4.out.a).mono ?_; rintro e w5 ⟨rfl, hb⟩; have HA5 := Lib.hid (HA4.out.below hb); have K6b := Lib.hid ((hb.block _ (lt_blk K6.out)).trans K6.out); clear hb)
    | ((with_reducible refine gate_dst (N := 8) rfl ?_); go_loud (refine box_event rfl (N := 8) rfl (cs := #[.int .i64 0, .string ⟨#[]⟩]) (t := 23) ?hr ?_; (case hr => first | (go_simp; done) | (go_simp; rfl))); intro b8 hg_ w6 hb2 hB2; have HL8 := Lib.hid (show w5.heap.size ≤ b8 from by rw [hg_]; exact Nat.le_refl _); clear hg_; have HB8 := Lib.hid hB2; have KK8 := Lib.hid hb2; clear hb2 hB2)
    | ((with_reducible refine gate_ (.store 23 (.tmp 8) (.tmp 69)) rfl ?_); go_loud (refine bstore (t := 23) (p := 8) (v := .tmp 69) rfl rfl rfl b8 _ #[.int .i64 ver, .string txt] (.agg #[.int .i64 ver, .string txt]) rfl rfl rfl KK8.out (by kernel_rfl) rfl (by simp [Value.oneCell']) ?_); intro w7 hb4 hs4 hz4 hB4; have hb := HB8.out.trans (hB4 _ HL8.out); have HA7 := Lib.hid (HA5.out.below hb); have hk6 := (hb.block _ (lt_blk K6b.out)).trans K6b.out; have p0 : w7.cell? ⟨b6, 0, none⟩ = some (.int .i64 ver) := cells_at hk6 0; have p1 : w7.cell? ⟨b6, 1, none⟩ = some (.string txt) := cells_at hk6 1; have q0 : w7.cell? ⟨b8, 0, none⟩ = some (.int .i64 ver) := cells_at hb4 0; have q1 : w7.cell? ⟨b8, 1, none⟩ = some (.string txt) := cells_at hb4 1; clear hk6 hb; clear hb4 hs4 hz4 hB4)
    | (go_at_call 42; refine (looks_calls HA7.out).mono ?_; rintro e w9 ⟨rfl, hq⟩; have HQ9 := Lib.hid hq; clear hq))
  go_ret
  exact ⟨rfl, tq_new ⟨_, .inr ⟨_, _, _, _, _, _, _, _, _, _, HQ9.out.a⟩, fun k hk => .inl hk, HQ9.out.k, HQ9.out.b⟩⟩

set_option maxHeartbeats 1000000 in
set_option maxRecDepth 100000 in
theorem act_not {B : Nat} {f : Nat → Prop} {W : World} {t g j : Nat} {v : Value} {room safe ver : Int} {T txt : ByteArray} {L : Value} {es : List S23} (h : Al B f W t g j v room safe ver T txt L es) (dk x : Int) (y : ByteArray) (hdk : dk = 1) (hy : y.size ≤ 140737488351232) (c : Int) (hc : c = 3 ∨ c = 5) (hfr : frame x y = ((⟨#[]⟩ : ByteArray), c)) :
    Calls Try.prog 41 #[.pointer (some ⟨t, 0, none⟩), .agg #[.int .i64 dk, .int .i64 x, .string y]] W fun e W' => e = .returned (.bool true) ∧ TQ B f W t W' := by
  have hk1 : (dk == 1) = true := beq_iff_eq.2 hdk
  have H0 := Lib.hid h
  have mixed := mixed
  have HR := Lib.hid (fun (W' : World) => rappend_not (W := W') (t := t) c hc hy hfr)
  have HJ := Lib.hid (fun (W' : World) (h : Al B (fnew W f) W' t g j v room safe ver T txt L es) => jappend_not h.jn x c y hy hc hfr)
  have hcc : (c == c) = true := beq_self_eq_true _
  clear h hdk hc hfr hy
  go_enter Try.func41, Try.ntmps41
  go_wp2_with ((with_reducible refine gate_dst (N := 3) rfl ?_); refine box_event rfl (N := 3) rfl (cs := #[.int .i64 dk, .int .i64 x, .string y]) (t := 76) ?hr ?_; (case hr => first | (go_simp; done) | (go_simp; rfl)); intro b3 hg_ w1 hb3 hB1; have HL3 := Lib.hid (show W.heap.size ≤ b3 from by rw [hg_]; exact Nat.le_refl _); clear hg_; have hA1 := (Aq.start H0.out).below hB1; have c1 : w1.cell? ⟨t, 1, none⟩ = some (.pointer (some ⟨j, 0, none⟩)) := hA1.a.c1; have HA1 := Lib.hid hA1.new; clear hA1; have K3 := Lib.hid hb3; have o0 : w1.cell? ⟨b3, 0, none⟩ = some (.int .i64 dk) := cells_at hb3 0; have o1 : w1.cell? ⟨b3, 1, none⟩ = some (.int .i64 x) := cells_at hb3 1; have o2 : w1.cell? ⟨b3, 2, none⟩ = some (.string y) := cells_at hb3 2; clear hb3 hB1)
  go_region_law (go_simp; first | (go_at_call 62; refine (HR.out _).mono ?_; rintro e w2 ⟨rfl, hb⟩; have HB2 := Lib.hid hb; clear hb))
  all_goals
    have HA2 := Lib.hid (HA1.out.below ((below_drew (Below.refl _ _)).trans HB2.out))
    have k3 := (HB2.out.block b3 (lt_blk K3.out)).trans K3.out
    have K32 := Lib.hid k3
    have c1 : w2.cell? ⟨t, 1, none⟩ = some (.pointer (some ⟨j, 0, none⟩)) := HA2.out.a.c1
    have o1 : w2.cell? ⟨b3, 1, none⟩ = some (.int .i64 x) := cells_at k3 1
    have o2 : w2.cell? ⟨b3, 2, none⟩ = some (.string y) := cells_at k3 2
    clear k3
    go_wp2_with fail
    go_region_law (go_simp; first | (go_at_call 44; refine (HJ.out _ (by exact HA2.out.drew.a)).mono ?_; rintro e w3 ⟨rfl, hb⟩; have HA3 := Lib.hid (HA2.out.drew.below hb); clear hb c1 o1 o2))
    all_goals
      go_wp2_with (go_at_call 42; refine (looks_calls HA3.out).mono ?_; rintro e w9 ⟨rfl, hq⟩; have HQ9 := Lib.hid hq; clear hq)
      go_ret
      exact ⟨rfl, tq_new ⟨_, .inr ⟨_, _, _, _, _, _, _, _, _, _, HQ9.out.a⟩, fun k hk => .inl hk, HQ9.out.k, HQ9.out.b⟩⟩

set_option maxHeartbeats 1000000 in
set_option maxRecDepth 100000 in
theorem act_full {B : Nat} {f : Nat → Prop} {W : World} {t g j : Nat} {v : Value} {room safe ver : Int} {T txt : ByteArray} {L : Value} {es : List S23} (h : Al B f W t g j v room safe ver T txt L es) (dk x : Int) (y : ByteArray) (hdk : dk = 1) (hft : fit_ x y) (hn : ¬ ((frameB x y).size : Int) ≤ room - T.size) :
    Calls Try.prog 41 #[.pointer (some ⟨t, 0, none⟩), .agg #[.int .i64 dk, .int .i64 x, .string y]] W fun e W' => e = .returned (.bool true) ∧ TQ B f W t W' := by
  have hk1 : (dk == 1) = true := beq_iff_eq.2 hdk
  have H0 := Lib.hid h
  have mixed := mixed
  have HR := Lib.hid (fun (W' : World) (h : Al B (fnew W f) W' t g j v room safe ver T txt L es) => rappend_full h.blk hft h.r0 h.r1 h.r2 hn)
  have HJ := Lib.hid (fun (W' : World) (h : Al B (fnew W f) W' t g j v room safe ver T txt L es) => jappend_full h.d h.jn x y hft h.r2 h.r1 h.bs hn)
  have HN := Lib.hid hn
  clear h hdk hft hn
  go_enter Try.func41, Try.ntmps41
  go_wp2_with ((with_reducible refine gate_dst (N := 3) rfl ?_); refine box_event rfl (N := 3) rfl (cs := #[.int .i64 dk, .int .i64 x, .string y]) (t := 76) ?hr ?_; (case hr => first | (go_simp; done) | (go_simp; rfl)); intro b3 hg_ w1 hb3 hB1; have HL3 := Lib.hid (show W.heap.size ≤ b3 from by rw [hg_]; exact Nat.le_refl _); clear hg_; have hA1 := (Aq.start H0.out).below hB1; have c1 : w1.cell? ⟨t, 1, none⟩ = some (.pointer (some ⟨j, 0, none⟩)) := hA1.a.c1; have HA1 := Lib.hid hA1.new; clear hA1; have K3 := Lib.hid hb3; have o0 : w1.cell? ⟨b3, 0, none⟩ = some (.int .i64 dk) := cells_at hb3 0; have o1 : w1.cell? ⟨b3, 1, none⟩ = some (.int .i64 x) := cells_at hb3 1; have o2 : w1.cell? ⟨b3, 2, none⟩ = some (.string y) := cells_at hb3 2; clear hb3 hB1)
  go_region_law (go_simp; first | (go_at_call 62; refine (HR.out _ (by exact HA1.out.drew.a)).mono ?_; rintro e w2 ⟨rfl, hb⟩; have HB2 := Lib.hid hb; clear hb))
  all_goals
    have HA2 := Lib.hid (HA1.out.below ((below_drew (Below.refl _ _)).trans HB2.out))
    have k3 := (HB2.out.block b3 (lt_blk K3.out)).trans K3.out
    have K32 := Lib.hid k3
    have c1 : w2.cell? ⟨t, 1, none⟩ = some (.pointer (some ⟨j, 0, none⟩)) := HA2.out.a.c1
    have o1 : w2.cell? ⟨b3, 1, none⟩ = some (.int .i64 x) := cells_at k3 1
    have o2 : w2.cell? ⟨b3, 2, none⟩ = some (.string y) := cells_at k3 2
    clear k3
    go_wp2_with fail
    go_region_law (go_simp; first | (go_at_call 44; refine (HJ.out _ (by exact HA2.out.drew.a)).mono ?_; rintro e w3 ⟨rfl, hd3, hl3⟩; have HA3 := Lib.hid (HA2.out.drew.left hd3 hl3); clear hd3 hl3 c1 o1 o2))
    all_goals
      go_wp2_with (go_at_call 42; refine (looks_calls HA3.out).mono ?_; rintro e w9 ⟨rfl, hq⟩; have HQ9 := Lib.hid hq; clear hq)
      go_ret
      exact ⟨rfl, tq_new ⟨_, .inr ⟨_, _, _, _, _, _, _, _, _, _, HQ9.out.a⟩, fun k hk => .inl hk, HQ9.out.k, HQ9.out.b⟩⟩

set_option maxHeartbeats 1000000 in
set_option maxRecDepth 100000 in
theorem act_fits {B : Nat} {f : Nat → Prop} {W : World} {t g j : Nat} {v : Value} {room safe ver : Int} {T txt : ByteArray} {L : Value} {es : List S23} (h : Al B f W t g j v room safe ver T txt L es) (dk x : Int) (y : ByteArray) (hdk : dk = 1) (hft : fit_ x y) (hn : ((frameB x y).size : Int) ≤ room - T.size) :
    Calls Try.prog 41 #[.pointer (some ⟨t, 0, none⟩), .agg #[.int .i64 dk, .int .i64 x, .string y]] W fun e W' => e = .returned (.bool true) ∧ TQ B f W t W' := by
  have hk1 : (dk == 1) = true := beq_iff_eq.2 hdk
  have H0 := Lib.hid h
  have mixed := mixed
  have HR := Lib.hid (fun (W' : World) (h : Al B (fnew W f) W' t g j v room safe ver T txt L es) => rappend_ok h.blk h.row h.elen h.t0 hft h.r0 h.r1 h.r2 hn)
  have HJ := Lib.hid (fun (W' : World) (h : Dk W' B g v room safe T) (hj : Jn W' j g ver txt (decide (0 < es.length))) (hw : B ≤ W'.heap.size) => jappend_fits h hj H0.out.j0 x y hft H0.out.r2 H0.out.r1 hw hn)
  have HN := Lib.hid hn
  have HFT := Lib.hid hft
  clear h hdk hft hn
  go_enter Try.func41, Try.ntmps41
  go_wp2_with ((with_reducible refine gate_dst (N := 3) rfl ?_); refine box_event rfl (N := 3) rfl (cs := #[.int .i64 dk, .int .i64 x, .string y]) (t := 76) ?hr ?_; (case hr => first | (go_simp; done) | (go_simp; rfl)); intro b3 hg_ w1 hb3 hB1; have HL3 := Lib.hid (show W.heap.size ≤ b3 from by rw [hg_]; exact Nat.le_refl _); clear hg_; have hA1 := (Aq.start H0.out).below hB1; have c1 : w1.cell? ⟨t, 1, none⟩ = some (.pointer (some ⟨j, 0, none⟩)) := hA1.a.c1; have HA1 := Lib.hid hA1.new; clear hA1; have K3 := Lib.hid hb3; have o0 : w1.cell? ⟨b3, 0, none⟩ = some (.int .i64 dk) := cells_at hb3 0; have o1 : w1.cell? ⟨b3, 1, none⟩ = some (.int .i64 x) := cells_at hb3 1; have o2 : w1.cell? ⟨b3, 2, none⟩ = some (.string y) := cells_at hb3 2; clear hb3 hB1)
  go_region_law (go_simp; first | (go_at_call 62; refine (HR.out _ (by exact HA1.out.drew.a)).mono ?_; rintro e w2 ⟨rfl, L', hk2, hr2, hn2, hb2, hat2⟩; have HM2 := Lib.hid (Md.ahead HA1.out.drew (fun k hk => .inr hk) hk2 hr2 hn2 hb2 hat2); have k3 := (hn2 b3 (lt_blk K3.out) (typ_diff K3.out HA1.out.a.blk (by decide)) (own_other HA1.out.a.row K3.out (by decide))).trans K3.out; have K32 := Lib.hid k3; clear hk2 hr2 hn2 hb2 hat2 k3))
  all_goals
    have c1 : w2.cell? ⟨t, 1, none⟩ = some (.pointer (some ⟨j, 0, none⟩)) := HM2.out.c1
    have o1 : w2.cell? ⟨b3, 1, none⟩ = some (.int .i64 x) := cells_at K32.out 1
    have o2 : w2.cell? ⟨b3, 2, none⟩ = some (.string y) := cells_at K32.out 2
    go_wp2_with fail
    go_region_law (go_simp; first | (go_at_call 44; refine (HJ.out _ (by exact HM2.out.drew.d) (by exact HM2.out.drew.jn) (by exact HM2.out.drew.bs)).mono ?_; rintro e w3 ⟨v', rfl, hd3, hj3, hb3, hk3, hat3⟩; have HA3 := Lib.hid (fits_fin HA1.out HFT.out HN.out (HM2.out.drew.follow (fun k hk => .inr hk) hd3 hj3 hb3 hk3 hat3)); clear hd3 hj3 hb3 hk3 hat3 c1 o1 o2))
    all_goals
      go_wp2_with (go_at_call 42; refine (looks_calls HA3.out).mono ?_; rintro e w9 ⟨rfl, hq⟩; have HQ9 := Lib.hid hq; clear hq)
      go_ret
      exact ⟨rfl, tq_new ⟨_, .inr ⟨_, _, _, _, _, _, _, _, _, _, HQ9.out.a⟩, fun k hk => .inl hk, HQ9.out.k, HQ9.out.b⟩⟩
end Go.Proofs.Ytcoodlncjnekoaa.F
