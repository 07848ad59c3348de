import Derived.Test.YtcoodlncjnekoaaYf
import Derived.Test.YtcoodlncjnekoaaEd
/- JournalActs: a journal's Append, and where the disk's row lies behind; the two when the document is one step ahead. Conditions: each theorem's own. -/
namespace Go.Proofs.Ytcoodlncjnekoaa.F
open Go.RowKit Go.Proofs.YtcoodlncjnekoaaW.Raw Go.Proofs.YtcoodlncjnekoaaW.PrintWords Go.Proofs.JournalPlain Go.Proofs.Ytcoodlncjnekoaa.D
set_option linter.unusedVariables false
set_option linter.unusedSimpArgs false
set_option maxHeartbeats 1000000 in
set_option maxRecDepth 100000 in
theorem jappend_fits {w : World} {B g j : Nat} {v : Value} {room safe ver : Int} {T txt : ByteArray} {any : Bool} (h : Dk w B g v room safe T) (hj : Jn w j g ver txt any) (hjB : B ≤ j) (x : Int) (y : ByteArray) (hf : fit_ x y) (hr : room ≤ 1048576) (hr0 : (T.size : Int) ≤ room) (hBw : B ≤ w.heap.size) (c : ((frameB x y).size : Int) ≤ room - T.size) :
    Calls Try.prog 44 #[.pointer (some ⟨j, 0, none⟩), .agg #[.int .i64 x, .string y]] w fun e w' => ∃ v', e = .returned (.int .i64 0) ∧ Dk w' B g v' room safe (T ++ frameB x y) ∧ Jn w' j g x y true ∧ Below B w w' ∧ (∀ i, i < w.heap.size → ¬ foot g v i → i ≠ j → w'.heap[i]? = w.heap[i]?) ∧ (v'.ownBlock = v.ownBlock ∨ ∃ b, v'.ownBlock = some b ∧ w.heap.size ≤ b) := by
  have hu23 := Try.underlying23
  obtain ⟨S, hS⟩ : ∃ S, S = frameB x y := ⟨_, rfl⟩
  have hSz : S.size ≤ 65553 := by rw [hS, frameB_size]; have := hf.2.2; omega
  have CR := Lib.hid (fun W => journal_Frame.calls (KF y) x y S 0 W (by rw [Frame_f _ _ _ (Nat.le_refl _), frame_fit hf, hS]))
  rw [← hS] at c ⊢
  have HD := Lib.hid h
  have HJ := Lib.hid hj
  have HA := Lib.hid (fun (W : World) (hd : Dk W B g v room safe T) (hW : B ≤ W.heap.size) => E.append_dk2 hd S (by omega) hr hr0 hW)
  have HBW := Lib.hid hBw
  have HjB := Lib.hid hjB
  simp only [c, if_true] at HA
  clear h hj hr hr0 hBw hSz c hf hS hjB
  go_enter Try.func44, Try.ntmps44
  go_wp2_with ((with_reducible refine gate_dst (N := 3) rfl ?_); refine box_event rfl (N := 3) rfl (cs := #[.int .i64 x, .string y]) (t := 23) ?hr ?_; (case hr => first | (go_simp; done) | (go_simp; rfl)); intro g0 hg w1 hb0 hbel; have HB := Lib.hid hbel; have BK0 := Lib.hid hb0; obtain ⟨a0, a1⟩ := cells23 hb0 (Below.refl _ _); clear hg hb0 hbel)
  refine (CR.out _).mono ?_
  rintro e w2 ⟨rfl, hb⟩
  have HB2 := Lib.hid (below_step HB.out hb)
  have BK2 := Lib.hid (blk_below BK0.out hb)
  have HD2 := Lib.hid (HD.out.below HB2.out)
  have HJ2 := Lib.hid (show Jn w2 j g ver txt any from blk_below HJ.out HB2.out)
  clear hb a0 a1
  have c0 : w2.cell? ⟨j, 0, none⟩ = some (.pointer (some ⟨g, 0, none⟩)) := (cells_at HJ2.out 0).trans rfl
  go_wp2_with fail
  refine (HA.out _ HD2.out (Nat.le_trans HBW.out HB2.out.size)).mono ?_
  rintro e w3 ⟨rfl, v', hd, hl, hat⟩
  have HD3 := Lib.hid hd
  have HAT := Lib.hid (hat.imp id (fun ⟨b, e1, e2⟩ => (⟨b, e1, Nat.le_trans HB2.out.size e2⟩ : ∃ b, v'.ownBlock = some b ∧ w.heap.size ≤ b)))
  have BK3 := Lib.hid (hl.keep HD2.out BK2.out (by decide) (by decide))
  have HJ3 := Lib.hid (show Jn w3 j g ver txt any from hl.keep HD2.out HJ2.out (by decide) (by decide))
  have HB3 := Lib.hid ((below_weak HB2.out HBW.out).trans hl.1)
  have HL3 := Lib.hid hl.2
  clear hd hl c0 hat
  have a0 : w3.cell? ⟨g0, 0, none⟩ = some (.int .i64 x) := (cells_at BK3.out 0).trans rfl
  have a1 : w3.cell? ⟨g0, 1, none⟩ = some (.string y) := (cells_at BK3.out 1).trans rfl
  have c0 : w3.cell? ⟨j, 0, none⟩ = some (.pointer (some ⟨g, 0, none⟩)) := (cells_at HJ3.out 0).trans rfl
  have c1 : w3.cell? ⟨j, 1, none⟩ = some (.int .i64 ver) := (cells_at HJ3.out 1).trans rfl
  have c2 : w3.cell? ⟨j, 2, none⟩ = some (.string txt) := (cells_at HJ3.out 2).trans rfl
  have c3 : w3.cell? ⟨j, 3, none⟩ = some (.bool any) := (cells_at HJ3.out 3).trans rfl
  have f1 := fz_at HJ3.out 1
  have f2 := fz_at HJ3.out 2
  have f3 := fz_at HJ3.out 3
  go_wp2_with fail
  go_ret
  have b1 := blk_put (cs' := #[.pointer (some ⟨g, 0, none⟩), .int .i64 x, .string txt, .bool any]) HJ3.out 1 (.int .i64 x) rfl
  have b2 := blk_put (cs' := #[.pointer (some ⟨g, 0, none⟩), .int .i64 x, .string y, .bool any]) b1 2 (.string y) rfl
  have b3 := blk_put (cs' := #[.pointer (some ⟨g, 0, none⟩), .int .i64 x, .string y, .bool true]) b2 3 (.bool true) rfl
  exact ⟨v', rfl, ((HD3.out.set HJ3.out (by decide) (by decide) 1 _).set b1 (by decide) (by decide) 2 _).set b2 (by decide) (by decide) 3 _, b3, ((HB3.out.setCell (p := ⟨j, 1, none⟩) HjB.out _).setCell (p := ⟨j, 2, none⟩) HjB.out _).setCell (p := ⟨j, 3, none⟩) HjB.out _, fun i hi hf hj => by
    rw [Below.heap_setCell _ _ _ _ hj, Below.heap_setCell _ _ _ _ hj, Below.heap_setCell _ _ _ _ hj, HL3.out i (Nat.lt_of_lt_of_le hi HB2.out.size) hf, HB2.out.block i hi], HAT.out⟩
set_option maxHeartbeats 1000000 in
set_option maxRecDepth 100000 in
theorem jappend_full {w : World} {B g j : Nat} {v : Value} {room safe ver : Int} {T txt : ByteArray} {any : Bool} (h : Dk w B g v room safe T) (hj : Jn w j g ver txt any) (x : Int) (y : ByteArray) (hf : fit_ x y) (hr : room ≤ 1048576) (hr0 : (T.size : Int) ≤ room) (hBw : B ≤ w.heap.size) (c : ¬ ((frameB x y).size : Int) ≤ room - T.size) :
    Calls Try.prog 44 #[.pointer (some ⟨j, 0, none⟩), .agg #[.int .i64 x, .string y]] w fun e w' => e = .returned (.int .i64 210) ∧ Dk w' B g v room safe T ∧ D.Left w w' B g v := by
  have hu23 := Try.underlying23
  obtain ⟨S, hS⟩ : ∃ S, S = frameB x y := ⟨_, rfl⟩
  have hSz : S.size ≤ 65553 := by rw [hS, frameB_size]; have := hf.2.2; omega
  have CR := Lib.hid (fun W => journal_Frame.calls (KF y) x y S 0 W (by rw [Frame_f _ _ _ (Nat.le_refl _), frame_fit hf, hS]))
  rw [← hS] at c
  have HD := Lib.hid h
  have HJ := Lib.hid hj
  have HA := Lib.hid (fun (W : World) (hd : Dk W B g v room safe T) (hW : B ≤ W.heap.size) => E.append_dk2 hd S (by omega) hr hr0 hW)
  have HBW := Lib.hid hBw
  simp only [c, if_false] at HA
  clear h hj hr hr0 hBw hSz c hf hS
  go_enter Try.func44, Try.ntmps44
  go_wp2_with ((with_reducible refine gate_dst (N := 3) rfl ?_); refine box_event rfl (N := 3) rfl (cs := #[.int .i64 x, .string y]) (t := 23) ?hr ?_; (case hr => first | (go_simp; done) | (go_simp; rfl)); intro g0 hg w1 hb0 hbel; have HB := Lib.hid hbel; have BK0 := Lib.hid hb0; obtain ⟨a0, a1⟩ := cells23 hb0 (Below.refl _ _); clear hg hb0 hbel)
  refine (CR.out _).mono ?_
  rintro e w2 ⟨rfl, hb⟩
  have HB2 := Lib.hid (below_step HB.out hb)
  have HD2 := Lib.hid (HD.out.below HB2.out)
  have HJ2 := Lib.hid (show Jn w2 j g ver txt any from blk_below HJ.out HB2.out)
  clear hb a0 a1
  have c0 : w2.cell? ⟨j, 0, none⟩ = some (.pointer (some ⟨g, 0, none⟩)) := (cells_at HJ2.out 0).trans rfl
  go_wp2_with fail
  refine (HA.out _ HD2.out (Nat.le_trans HBW.out HB2.out.size)).mono ?_
  rintro e w3 ⟨rfl, hd, hl⟩
  have HD3 := Lib.hid hd
  have HL3 := Lib.hid hl
  clear hd hl c0
  go_wp2_with fail
  go_ret
  exact ⟨rfl, HD3.out, (below_weak HB2.out HBW.out).trans HL3.out.1, fun i hi hf => (HL3.out.2 i (Nat.lt_of_lt_of_le hi HB2.out.size) hf).trans (HB2.out.block i hi)⟩
theorem Al.mono {B : Nat} {f f' : Nat → Prop} {W : World} {t g j : Nat} {v : Value} {room safe ver : Int} {T txt : ByteArray} {L : Value} {es : List S23} (h : Al B f W t g j v room safe ver T txt L es) (hf : ∀ k, f k → f' k) : Al B f' W t g j v room safe ver T txt L es :=
  { h with ft := hf _ h.ft, fj := hf _ h.fj, fd := fun k hk => hf _ (h.fd k hk), fl := fun k hk => hf _ (h.fl k hk) }
theorem Tw.mono {B : Nat} {f f' : Nat → Prop} {W : World} {t : Nat} (h : Tw B f W t) (hf : ∀ k, f k → f' k) : Tw B f' W t := by
  rcases h with ⟨h1, h2, cs, h3, h4⟩ | ⟨g, j, v, room, safe, ver, T, txt, L, es, h⟩
  · exact .inl ⟨hf _ h1, h2, cs, h3, h4⟩
  · exact .inr ⟨g, j, v, room, safe, ver, T, txt, L, es, h.mono hf⟩
/-- What is one's own, and all that is new. -/
def fnew (W : World) (f : Nat → Prop) : Nat → Prop := fun k => f k ∨ W.heap.size ≤ k
theorem tq_new {B : Nat} {f : Nat → Prop} {W W1 : World} {t : Nat} (h : TQ B (fnew W f) W t W1) : TQ B f W t W1 := by
  obtain ⟨f', h1, h2, h3, h4⟩ := h
  refine ⟨f', h1, fun k hk => ?_, ⟨h3.1, fun i hi hn => h3.2 i hi (fun h => ?_)⟩, h4⟩
  · rcases h2 k hk with h | h
    · exact h
    · exact .inr h
  · rcases h with h | h
    · exact hn h
    · omega
/-- The document is one step ahead. -/
structure Md (B : Nat) (F : Nat → Prop) (W0 W : World) (t g j : Nat) (v : Value) (room safe ver : Int) (T txt : ByteArray) (any : Bool) (T2 : ByteArray) (safe2 : Int) (L : Value) (es : List S23) : Prop where
  blk : W.heap[t]? = some (.cells #[.pointer (some ⟨g, 0, none⟩), .pointer (some ⟨j, 0, none⟩), .string T2, .int .i64 room, .int .i64 safe2, L] 82 (0, 0))
  d : Dk W B g v room safe T
  jn : Jn W j g ver txt any
  row : Rt W B L es
  t0 : B ≤ t
  j0 : B ≤ j
  ft : F t
  fj : F j
  fd : ∀ k, foot g v k → F k
  fl : ∀ k, L.ownBlock = some k → F k
  k : Kept W0 W F
  b : Below B W0 W
section
variable {B : Nat} {F : Nat → Prop} {W0 W W1 : World} {t g j : Nat} {v v' : Value} {room safe ver : Int} {T txt : ByteArray} {any : Bool} {T2 : ByteArray} {safe2 : Int} {L : Value} {es : List S23}
theorem Md.below (h : Md B F W0 W t g j v room safe ver T txt any T2 safe2 L es) (hb : Below W.heap.size W W1) : Md B F W0 W1 t g j v room safe ver T txt any T2 safe2 L es :=
  { h with blk := (hb.block _ (lt_blk h.blk)).trans h.blk, d := h.d.below hb, jn := (hb.block _ (lt_blk h.jn)).trans h.jn, row := h.row.below hb, k := h.k.then_ (kept_below2 hb) (fun _ h => .inl h), b := h.b.trans (hb.mono (Nat.le_trans h.t0 (Nat.le_of_lt (lt_blk h.blk)))) }
theorem Md.bs (h : Md B F W0 W t g j v room safe ver T txt any T2 safe2 L es) : B ≤ W.heap.size := Nat.le_trans h.t0 (Nat.le_of_lt (lt_blk h.blk))
theorem Md.c1 (h : Md B F W0 W t g j v room safe ver T txt any T2 safe2 L es) : W.cell? ⟨t, 1, none⟩ = some (.pointer (some ⟨j, 0, none⟩)) := cells_at h.blk 1
/-- The journal follows. -/
theorem Md.follow {x : Int} {y T3 : ByteArray} (h : Md B F W0 W t g j v room safe ver T txt any T2 safe2 L es) (hF : ∀ k, W0.heap.size ≤ k → F k) (hd : Dk W1 B g v' room safe T3) (hj : Jn W1 j g x y true) (hb : Below B W W1) (hk : ∀ i, i < W.heap.size → ¬ foot g v i → i ≠ j → W1.heap[i]? = W.heap[i]?) (hat : v'.ownBlock = v.ownBlock ∨ ∃ b, v'.ownBlock = some b ∧ W.heap.size ≤ b) : Md B F W0 W1 t g j v' room safe x T3 y true T2 safe2 L es := by
  have hs := h.k.1
  refine { h with blk := (hk t (lt_blk h.blk) (not_foot h.d h.blk (by decide) (by decide)) (typ_diff h.blk h.jn (by decide))).trans h.blk, d := hd, jn := hj, row := Rt.of (row_kept h.d h.jn (Kd.R_mono h.row (fun _ _ => trivial)) hk), fd := ?_, k := h.k.then_ ⟨hb.size, fun i hi hn => hk i hi (fun e => hn (.inl (h.fd i e))) (fun e => hn (.inl (e ▸ h.fj)))⟩ (S2 := fun k => F k ∨ False) (fun k hk => .inl (hk.resolve_right id)), b := h.b.trans hb }
  rintro k (rfl | hk)
  · exact h.fd _ (.inl rfl)
  · rcases hat with e | ⟨b, e1, e2⟩
    · exact h.fd k (.inr (e ▸ hk))
    · rw [e1] at hk
      injection hk with hk
      exact hF k (by omega)
/-- Both are as far again. -/
theorem Md.fin (h : Md B F W0 W t g j v room safe ver T txt any T safe L es) (ha : any = decide (0 < es.length)) (hl : 0 < es.length → ver = (rd_T23 es ((es.length : Int) - 1)).f0 ∧ txt = (rd_T23 es ((es.length : Int) - 1)).f1) (hz : es.length = 0 → ver = 0 ∧ txt = ⟨#[]⟩) (r0 : 0 ≤ room) (r1 : (T.size : Int) ≤ room) (r2 : room ≤ 1048576) (hn : 17 * es.length ≤ 17825792 + T.size) : Aq B F W0 W t g j v room safe ver T txt L es :=
  ⟨⟨h.blk, h.d, by rw [← ha]; exact h.jn, hl, hz, h.row, r0, r1, r2, hn, h.t0, h.j0, h.ft, h.fj, h.fd, h.fl⟩, h.k, h.b⟩
end
theorem Aq.md {B : Nat} {F : Nat → Prop} {W0 W : World} {t g j : Nat} {v : Value} {room safe ver : Int} {T txt : ByteArray} {L : Value} {es : List S23} (h : Aq B F W0 W t g j v room safe ver T txt L es) : Md B F W0 W t g j v room safe ver T txt (decide (0 < es.length)) T safe L es :=
  ⟨h.a.blk, h.a.d, h.a.jn, h.a.row, h.a.t0, h.a.j0, h.a.ft, h.a.fj, h.a.fd, h.a.fl, h.k, h.b⟩
theorem Aq.new {B : Nat} {f : Nat → Prop} {W0 W : World} {t g j : Nat} {v : Value} {room safe ver : Int} {T txt : ByteArray} {L : Value} {es : List S23} (h : Aq B f W0 W t g j v room safe ver T txt L es) : Aq B (fnew W0 f) W0 W t g j v room safe ver T txt L es :=
  ⟨h.a.mono (fun _ h => .inl h), h.k.mono (fun _ h => .inl h), h.b⟩
/-- The document's Append has told its own. -/
theorem Md.ahead {B : Nat} {F : Nat → Prop} {W0 W W1 : World} {t g j : Nat} {v : Value} {room safe ver : Int} {T txt T2 : ByteArray} {L L' : Value} {es es2 : List S23} (h : Aq B F W0 W t g j v room safe ver T txt L es) (hF : ∀ k, W0.heap.size ≤ k → F k)
    (hk1 : W1.heap[t]? = some (.cells #[.pointer (some ⟨g, 0, none⟩), .pointer (some ⟨j, 0, none⟩), .string T2, .int .i64 room, .int .i64 safe, L'] 82 (0, 0))) (hr : Rt W1 B L' es2) (hk : ∀ i, i < W.heap.size → i ≠ t → L.ownBlock ≠ some i → W1.heap[i]? = W.heap[i]?) (hb : Below B W W1) (hat : L'.ownBlock = L.ownBlock ∨ ∃ b, L'.ownBlock = some b ∧ W.heap.size ≤ b) : Md B F W0 W1 t g j v room safe ver T txt (decide (0 < es.length)) T2 safe L' es2 := by
  have hs := h.k.1
  have hno : ∀ {k : Nat} {cs : Array Value} {ty : TypeId} {fr : Nat × Nat}, W.heap[k]? = some (.cells cs ty fr) → ty ≠ 23 → L.ownBlock ≠ some k := fun hc hty e => by
    obtain ⟨c, h3⟩ := Kd.R_typed h.a.row _ e
    exact typ_diff h3 hc (fun e => hty e.symm) rfl
  refine ⟨hk1, h.a.d.move fun i hi hf => hk i hi (fun e => ?_) (fun e => ?_), (hk j (lt_blk h.a.jn) (typ_diff h.a.jn h.a.blk (by decide)) (hno h.a.jn (by decide))).trans h.a.jn, hr, h.a.t0, h.a.j0, h.a.ft, h.a.fj, h.a.fd, ?_, h.k.then_ ⟨hb.size, fun i hi hn => hk i hi (fun e => hn (e ▸ h.a.ft)) (fun e => hn (h.a.fl i e))⟩ (fun _ h => .inl h), h.b.trans hb⟩
  · exact not_foot h.a.d h.a.blk (by decide) (by decide) (e ▸ hf)
  · obtain ⟨c, h3⟩ := Kd.R_typed h.a.row i e
    exact not_foot h.a.d h3 (by decide) (by decide) hf
  · intro k hk
    rcases hat with e | ⟨b, e1, e2⟩
    · exact h.a.fl k (e ▸ hk)
    · rw [e1] at hk
      injection hk with hk
      exact hF k (by omega)
end Go.Proofs.Ytcoodlncjnekoaa.F
