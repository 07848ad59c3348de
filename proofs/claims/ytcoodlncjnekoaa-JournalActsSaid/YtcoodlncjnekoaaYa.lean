import Derived.Test.YtcoodlncjnekoaaJc
import Derived.Test.YtcoodlncjnekoaaRr
import Derived.Test.YtcoodlncjnekoaaAz
import Derived.Test.YtcoodlncjnekoaaWKept
/- JournalActs: a journal beside the document's: what lies where. Conditions: each theorem's own. -/
namespace Go.Proofs.Ytcoodlncjnekoaa.F
open Go.RowKit Go.Proofs.YtcoodlncjnekoaaW.PrintWords Go.Proofs.JournalPlain Go.Proofs.Ytcoodlncjnekoaa.D
set_option linter.unusedVariables false
set_option linter.unusedSimpArgs false
theorem typ_diff {W : World} {a b : Nat} {c1 c2 : Array Value} {t1 t2 : TypeId} {f1 f2 : Nat × Nat} (h1 : W.heap[a]? = some (.cells c1 t1 f1)) (h2 : W.heap[b]? = some (.cells c2 t2 f2)) (h : t1 ≠ t2) : a ≠ b := by
  rintro rfl
  rw [h1] at h2
  injection h2 with h2
  injection h2 with _ h2 _
  exact h h2
theorem lt_blk {W : World} {a : Nat} {o : Obj} (h : W.heap[a]? = some o) : a < W.heap.size := (Array.getElem?_eq_some_iff.1 h).1
theorem rt_left {W W1 : World} {B g B' : Nat} {v : Value} {room safe : Int} {T : ByteArray} {L : Value} {es : List S23} (hd : Dk W B g v room safe T) (hl : D.Left W W1 B g v) (hr : Rt W B' L es) : Rt W1 B' L es :=
  hr.keep fun k hk _ => by
    obtain ⟨c, h⟩ := Kd.R_typed hr k hk
    exact (hl.keep hd h (by decide) (by decide)).trans h.symm
/-- A journal that lives, and the document's: t's block, the disk g, the journal j, the list L. -/
structure Al (B : Nat) (f : Nat → Prop) (W : World) (t g j : Nat) (v : Value) (room safe ver : Int) (T txt : ByteArray) (L : Value) (es : List S23) : Prop where
  blk : W.heap[t]? = some (.cells #[.pointer (some ⟨g, 0, none⟩), .pointer (some ⟨j, 0, none⟩), .string T, .int .i64 room, .int .i64 safe, L] 82 (0, 0))
  d : Dk W B g v room safe T
  jn : Jn W j g ver txt (decide (0 < es.length))
  last : 0 < es.length → ver = (rd_T23 es ((es.length : Int) - 1)).f0 ∧ txt = (rd_T23 es ((es.length : Int) - 1)).f1
  zero : es.length = 0 → ver = 0 ∧ txt = ⟨#[]⟩
  row : Rt W B L es
  r0 : 0 ≤ room
  r1 : (T.size : Int) ≤ room
  r2 : room ≤ 1048576
  n : 17 * es.length ≤ 17825792 + T.size
  t0 : B ≤ t
  j0 : B ≤ j
  ft : f t
  fj : f j
  fd : ∀ k, foot g v k → f k
  fl : ∀ k, L.ownBlock = some k → f k
section
variable {B : Nat} {f : Nat → Prop} {W W1 : World} {t g j : Nat} {v : Value} {room safe ver : Int} {T txt : ByteArray} {L : Value} {es : List S23}
theorem Al.move (h : Al B f W t g j v room safe ver T txt L es) (hm : ∀ k, f k → k < W.heap.size → W1.heap[k]? = W.heap[k]?) : Al B f W1 t g j v room safe ver T txt L es :=
  { h with blk := (hm t h.ft (lt_blk h.blk)).trans h.blk, d := h.d.move (fun i hi hf => hm i (h.fd i hf) hi), jn := (hm j h.fj (lt_blk h.jn)).trans h.jn, row := h.row.keep (fun k hk hlt => hm k (h.fl k hk) hlt) }
theorem Al.below (h : Al B f W t g j v room safe ver T txt L es) (hb : Below W.heap.size W W1) : Al B f W1 t g j v room safe ver T txt L es := h.move (fun k _ hk => hb.block k hk)
theorem Al.left (h : Al B f W t g j v room safe ver T txt L es) (hd : Dk W1 B g v room safe T) (hl : D.Left W W1 B g v) : Al B f W1 t g j v room safe ver T txt L es :=
  { h with blk := hl.keep h.d h.blk (by decide) (by decide), d := hd, jn := hl.keep h.d h.jn (by decide) (by decide), row := rt_left h.d hl h.row }
theorem Al.bs (h : Al B f W t g j v room safe ver T txt L es) : B ≤ W.heap.size := Nat.le_trans h.t0 (Nat.le_of_lt (lt_blk h.blk))
theorem Al.c0 (h : Al B f W t g j v room safe ver T txt L es) : W.cell? ⟨t, 0, none⟩ = some (.pointer (some ⟨g, 0, none⟩)) := cells_at h.blk 0
theorem Al.c1 (h : Al B f W t g j v room safe ver T txt L es) : W.cell? ⟨t, 1, none⟩ = some (.pointer (some ⟨j, 0, none⟩)) := cells_at h.blk 1
theorem Al.c2 (h : Al B f W t g j v room safe ver T txt L es) : W.cell? ⟨t, 2, none⟩ = some (.string T) := cells_at h.blk 2
theorem Al.c3 (h : Al B f W t g j v room safe ver T txt L es) : W.cell? ⟨t, 3, none⟩ = some (.int .i64 room) := cells_at h.blk 3
theorem Al.c4 (h : Al B f W t g j v room safe ver T txt L es) : W.cell? ⟨t, 4, none⟩ = some (.int .i64 safe) := cells_at h.blk 4
theorem Al.c5 (h : Al B f W t g j v room safe ver T txt L es) : W.cell? ⟨t, 5, none⟩ = some L := cells_at h.blk 5
theorem Al.tlt (h : Al B f W t g j v room safe ver T txt L es) : T.size ≤ 1048576 := by have := h.r1; have := h.r2; omega
theorem Al.elen (h : Al B f W t g j v room safe ver T txt L es) : es.length ≤ 1200000 := by have := h.n; have := h.tlt; omega
end
/-- One of the two: it is dead, or lives. -/
def Tw (B : Nat) (f : Nat → Prop) (W : World) (t : Nat) : Prop :=
  (f t ∧ B ≤ t ∧ ∃ cs : Array Value, W.heap[t]? = some (.cells cs 82 (0, 0)) ∧ cs[1]? = some (.pointer none)) ∨ ∃ g j v room safe ver T txt L es, Al B f W t g j v room safe ver T txt L es
def TQ (B : Nat) (f : Nat → Prop) (W : World) (t : Nat) (W' : World) : Prop := ∃ f', Tw B f' W' t ∧ (∀ k, f' k → f k ∨ W.heap.size ≤ k) ∧ Kept W W' f ∧ Below B W W'
theorem Tw.move {B : Nat} {f : Nat → Prop} {W W1 : World} {t : Nat} (h : Tw B f W t) (hm : ∀ k, f k → k < W.heap.size → W1.heap[k]? = W.heap[k]?) : Tw B f W1 t := by
  rcases h with ⟨h1, h2, cs, h3, h4⟩ | ⟨g, j, v, room, safe, ver, T, txt, L, es, h⟩
  · exact .inl ⟨h1, h2, cs, (hm t h1 (lt_blk h3)).trans h3, h4⟩
  · exact .inr ⟨g, j, v, room, safe, ver, T, txt, L, es, h.move hm⟩
theorem own_ltR {W : World} {B : Nat} {L : Value} {es : List S23} (h : Rt W B L es) : ∀ k, L.ownBlock = some k → k < W.heap.size := fun k hk => by
  obtain ⟨c, h3⟩ := Kd.R_typed h k hk
  exact lt_blk h3
theorem foot_lt {W : World} {B g : Nat} {v : Value} {room safe : Int} {T : ByteArray} (h : Dk W B g v room safe T) : ∀ k, foot g v k → k < W.heap.size := fun k hk => by
  rcases hk with rfl | hk
  · exact h.lt
  · exact (h.own.lt k hk).2
theorem Tw.bound {B : Nat} {f : Nat → Prop} {W : World} {t : Nat} (h : Tw B f W t) : Tw B (fun k => f k ∧ k < W.heap.size) W t := by
  rcases h with ⟨h1, h2, cs, h3, h4⟩ | ⟨g, j, v, room, safe, ver, T, txt, L, es, h⟩
  · exact .inl ⟨⟨h1, lt_blk h3⟩, h2, cs, h3, h4⟩
  · exact .inr ⟨g, j, v, room, safe, ver, T, txt, L, es, { h with ft := ⟨h.ft, lt_blk h.blk⟩, fj := ⟨h.fj, lt_blk h.jn⟩, fd := fun k hk => ⟨h.fd k hk, foot_lt h.d k hk⟩, fl := fun k hk => ⟨h.fl k hk, own_ltR h.row k hk⟩ }⟩
theorem kept_below2 {W W1 : World} {f : Nat → Prop} (h : Below W.heap.size W W1) : Kept W W1 f := Kept.of_below h f
theorem kept_left2 {W W1 : World} {B g : Nat} {v : Value} {f : Nat → Prop} (hl : D.Left W W1 B g v) (hf : ∀ k, foot g v k → f k) : Kept W W1 f := ⟨hl.1.size, fun i hi hn => hl.2 i hi (fun h => hn (hf i h))⟩
/-- What a walk knows beside: it has left what is not this one's. -/
structure Aq (B : Nat) (f : Nat → Prop) (W0 W : World) (t g j : Nat) (v : Value) (room safe ver : Int) (T txt : ByteArray) (L : Value) (es : List S23) : Prop where
  a : Al B f W t g j v room safe ver T txt L es
  k : Kept W0 W f
  b : Below B W0 W
section
variable {B : Nat} {f : Nat → Prop} {W0 W W1 : World} {t g j : Nat} {v : Value} {room safe ver : Int} {T txt : ByteArray} {L : Value} {es : List S23}
theorem Aq.start (h : Al B f W t g j v room safe ver T txt L es) : Aq B f W W t g j v room safe ver T txt L es := ⟨h, Kept.refl _ _, Below.refl _ _⟩
theorem Aq.below (h : Aq B f W0 W t g j v room safe ver T txt L es) (hb : Below W.heap.size W W1) : Aq B f W0 W1 t g j v room safe ver T txt L es :=
  ⟨h.a.below hb, h.k.then_ (kept_below2 hb) (fun _ h => .inl h), h.b.trans (hb.mono h.a.bs)⟩
theorem Aq.left (h : Aq B f W0 W t g j v room safe ver T txt L es) (hd : Dk W1 B g v room safe T) (hl : D.Left W W1 B g v) : Aq B f W0 W1 t g j v room safe ver T txt L es :=
  ⟨h.a.left hd hl, h.k.then_ (kept_left2 hl h.a.fd) (fun _ h => .inl h), h.b.trans hl.1⟩
theorem Aq.q (h : Aq B f W0 W t g j v room safe ver T txt L es) : TQ B f W0 t W := ⟨f, .inr ⟨_, _, _, _, _, _, _, _, _, _, h.a⟩, fun k hk => .inl hk, h.k, h.b⟩
theorem Aq.drew (h : Aq B f W0 W t g j v room safe ver T txt L es) : Aq B f W0 W.drew t g j v room safe ver T txt L es := h.below (below_drew (Below.refl _ _))
end
end Go.Proofs.Ytcoodlncjnekoaa.F
