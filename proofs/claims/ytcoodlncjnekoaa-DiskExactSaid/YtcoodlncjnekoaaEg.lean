/- A disk beside the document's: what lies where; one call on both. Conditions: each theorem's own. -/
import Derived.Test.YtcoodlncjnekoaaEf
import Derived.Test.YtcoodlncjnekoaaWKept
namespace Go.Proofs.Ytcoodlncjnekoaa.E
open Go.RowKit Go.Proofs.YtcoodlncjnekoaaW.PrintWords Go.Proofs.Ytcoodlncjnekoaa.D
set_option linter.unusedVariables false
set_option linter.unusedSimpArgs false
theorem str_bytes (x : ByteArray) : strOfNums (bytesOf x) = x := by
  apply ByteArray.ext
  apply Array.ext'
  have hf : ((fun n : Int => UInt8.ofNat n.toNat) ∘ fun b : UInt8 => (b.toNat : Int)) = id := by funext b; simp
  simp [strOfNums, bytesOf, hf]
theorem cut_same (T : ByteArray) (s : Nat) (keep : Int) (hs : s ≤ T.size) : strOfNums ((bytesOf T).take (s + keep.toNat)) = ex T (cutN T (s : Int) keep).toNat := by
  rw [← str_bytes (ex T _), bytes_ex]
  congr 1
  have hl := bytesOf_length T
  have h : (bytesOf T).take (s + keep.toNat) = (bytesOf T).take (min T.size (s + keep.toNat)) := by
    by_cases h1 : T.size ≤ s + keep.toNat
    · rw [Nat.min_eq_left h1, List.take_of_length_le (by omega), List.take_of_length_le (by omega)]
    · rw [Nat.min_eq_right (by omega)]
  rw [h]
  congr 1
  unfold cutN
  omega
/-- The two disks of a pair: blocks g and gr; all their blocks are f's. -/
def Pr (B : Nat) (f : Nat → Prop) (W : World) (g gr : Nat) : Prop :=
  ∃ v vr room T, ∃ s : Nat, Dk W B g v room (s : Int) T ∧ Rk W B gr vr room (lay (bytesOf T) s) ∧ s ≤ T.size ∧ (T.size : Int) ≤ room ∧ 0 ≤ room ∧ room ≤ 1048576 ∧ (∀ k, foot g v k → f k) ∧ (∀ k, foot gr vr k → f k) ∧ (∀ k, f k → k < W.heap.size)
theorem Pr.move {B : Nat} {f : Nat → Prop} {W W1 : World} {g gr : Nat} (h : Pr B f W g gr) (hm : ∀ k, f k → k < W.heap.size → W1.heap[k]? = W.heap[k]?) (hsz : W.heap.size ≤ W1.heap.size) : Pr B f W1 g gr := by
  obtain ⟨v, vr, room, T, s, h1, h2, h3, h4, h5, h6, h7, h8, h9⟩ := h
  exact ⟨v, vr, room, T, s, h1.move (fun i hi hf => hm i (h7 i hf) hi), h2.move (fun i hi hf => hm i (h8 i hf) hi), h3, h4, h5, h6, h7, h8, fun k hk => Nat.lt_of_lt_of_le (h9 k hk) hsz⟩
def OneQ (B : Nat) (f : Nat → Prop) (W : World) (g gr : Nat) (W' : World) : Prop := ∃ f', Pr B f' W' g gr ∧ (∀ k, f' k → f k ∨ W.heap.size ≤ k) ∧ Kept W W' f ∧ Below B W W'
section
variable {B g gr : Nat} {v vr : Value} {room safe : Int} {T : ByteArray} {bs : List (Int × Bool)} {W W1 W2 : World}
theorem rk_after_dk (hd : Dk W B g v room safe T) (hr : Rk W B gr vr room bs) (hl : D.Left W W1 B g v) : Rk W1 B gr vr room bs :=
  hr.move (fun i hi hf => by
    rcases hf with rfl | hf
    · exact (hl.keep hd hr.blk (by decide) (by decide)).trans hr.blk.symm
    · obtain ⟨cs, hcs⟩ := own_typed hr.own i hf
      exact (hl.keep hd hcs (by decide) (by decide)).trans hcs.symm)
theorem dk_after_rk (hd : Dk W B g v room safe T) (hr : Rk W B gr vr room bs) (hl : D.Left W W1 B gr vr) : Dk W1 B g v room safe T :=
  hd.move (fun i hi hf => hl.2 i hi (fun hf2 => by
    have h1 : ∀ (cs : Array Value) (t : Nat) (fr : Nat × Nat), W.heap[i]? = some (Obj.cells cs t fr) → t ≠ 108 → t ≠ 110 → False := fun cs t fr hc n1 n2 => by
      rcases hf2 with rfl | hf2
      · rw [hr.blk] at hc
        injection hc with hc
        injection hc with _ hc _
        exact n1 hc.symm
      · obtain ⟨cs2, hcs2⟩ := own_typed hr.own i hf2
        rw [hcs2] at hc
        injection hc with hc
        injection hc with _ hc _
        exact n2 hc.symm
    rcases hf with rfl | hf
    · obtain ⟨p, hb, _⟩ := hd.blk
      exact h1 _ _ _ hb (by decide) (by decide)
    · rcases hd.own.2 with ⟨hv, _⟩ | ⟨k, cap, cur, fz, hv, hb, hg, _⟩
      · rw [hv] at hf; simp [Value.ownBlock] at hf
      · have : k = i := by rw [hv] at hf; simpa [Value.ownBlock] using hf
        subst this
        exact h1 _ _ _ hg (by decide) (by decide)))
end
theorem kept_left {W W1 : World} {B g : Nat} {v : Value} {f : Nat → Prop} (hl : D.Left W W1 B g v) (hf : ∀ k, foot g v k → f k) : Kept W W1 f := ⟨hl.1.size, fun i hi hn => hl.2 i hi (fun h => hn (hf i h))⟩
/-- A pair behind a call on each of the two. -/
theorem OneQ.mk {B : Nat} {f : Nat → Prop} {W W1 W2 : World} {g gr : Nat} {v vr v2 vr2 : Value} {room : Int} {T : ByteArray} {s : Nat} (hk1 : Kept W W1 f) (hb1 : Below B W W1) (hk2 : Kept W1 W2 f) (hb2 : Below B W1 W2)
    (hfv : ∀ k, foot g v k → f k) (hfr : ∀ k, foot gr vr k → f k) (hd : Dk W2 B g v2 room (s : Int) T) (hr : Rk W2 B gr vr2 room (lay (bytesOf T) s)) (h3 : s ≤ T.size) (h4 : (T.size : Int) ≤ room) (h5 : 0 ≤ room) (h6 : room ≤ 1048576)
    (ha : v2.ownBlock = v.ownBlock ∨ ∃ b, v2.ownBlock = some b ∧ W.heap.size ≤ b) (ha2 : vr2.ownBlock = vr.ownBlock ∨ ∃ b, vr2.ownBlock = some b ∧ W.heap.size ≤ b) : OneQ B f W g gr W2 := by
  refine ⟨fun k => (f k ∨ W.heap.size ≤ k) ∧ k < W2.heap.size, ⟨v2, vr2, room, T, s, hd, hr, h3, h4, h5, h6, fun k hk => ⟨?_, ?_⟩, fun k hk => ⟨?_, ?_⟩, fun k hk => hk.2⟩, fun k hk => hk.1, hk1.then_ hk2 (fun _ h => .inl h), hb1.trans hb2⟩
  · rcases hk with rfl | hk
    · exact .inl (hfv _ (.inl rfl))
    · rcases ha with e | ⟨b, e, hle⟩
      · exact .inl (hfv k (.inr (by rw [← e]; exact hk)))
      · rw [e] at hk; injection hk with hk; exact .inr (by omega)
  · rcases hk with rfl | hk
    · exact hd.lt
    · exact (hd.own.lt k hk).2
  · rcases hk with rfl | hk
    · exact .inl (hfr _ (.inl rfl))
    · rcases ha2 with e | ⟨b, e, hle⟩
      · exact .inl (hfr k (.inr (by rw [← e]; exact hk)))
      · rw [e] at hk; injection hk with hk; exact .inr (by omega)
  · rcases hk with rfl | hk
    · exact hr.lt
    · exact own_lt hr.own k hk
theorem kept_below {W W1 : World} {f : Nat → Prop} (h : Below W.heap.size W W1) : Kept W W1 f := Kept.of_below h f
theorem OneQ.after {B : Nat} {f : Nat → Prop} {W W1 W2 : World} {g gr : Nat} (h : Pr B f W g gr) (hB : B ≤ W.heap.size) (hb : Below W.heap.size W W1) (h2 : OneQ B f W1 g gr W2) : OneQ B f W g gr W2 := by
  obtain ⟨f', h3, h4, h5, h6⟩ := h2
  exact ⟨f', h3, fun k hk => (h4 k hk).imp id (fun h => Nat.le_trans hb.size h), (kept_below hb).then_ h5 (fun _ h => .inl h), (hb.mono hB).trans h6⟩
/-- What the walk of one knows behind its boxes. -/
structure On (B : Nat) (f : Nat → Prop) (W w1 : World) (g gr b2 b3 : Nat) (v vr : Value) (room : Int) (T : ByteArray) (s : Nat) (kd dk nn : Int) (tx : ByteArray) : Prop where
  d : Dk w1 B g v room (s : Int) T
  r : Rk w1 B gr vr room (lay (bytesOf T) s)
  x : w1.heap[b2]? = some (.cells #[.pointer (some ⟨g, 0, none⟩), .pointer (some ⟨gr, 0, none⟩)] 42 (0, 0))
  o : w1.heap[b3]? = some (.cells #[.int .i64 kd, .int .i64 dk, .string tx, .int .i64 nn] 50 (0, 0))
  k : Kept W w1 f
  b : Below B W w1
section
variable {B : Nat} {f : Nat → Prop} {W w1 w2 : World} {g gr b2 b3 : Nat} {v vr : Value} {room : Int} {T : ByteArray} {s : Nat} {kd dk nn : Int} {tx : ByteArray}
theorem On.left (h : On B f W w1 g gr b2 b3 v vr room T s kd dk nn tx) (hf : ∀ k, foot g v k → f k) (hd : Dk w2 B g v room (s : Int) T) (hl : D.Left w1 w2 B g v) : On B f W w2 g gr b2 b3 v vr room T s kd dk nn tx :=
  ⟨hd, rk_after_dk h.d h.r hl, (hl.keep h.d h.x (by decide) (by decide)), (hl.keep h.d h.o (by decide) (by decide)), h.k.then_ (kept_left hl hf) (fun _ h => .inl h), h.b.trans hl.1⟩
theorem On.below (h : On B f W w1 g gr b2 b3 v vr room T s kd dk nn tx) (hb : Below w1.heap.size w1 w2) (hB : B ≤ w1.heap.size) : On B f W w2 g gr b2 b3 v vr room T s kd dk nn tx :=
  ⟨h.d.below hb, h.r.below hb, (hb.block _ (Array.getElem?_eq_some_iff.1 h.x).1).trans h.x, (hb.block _ (Array.getElem?_eq_some_iff.1 h.o).1).trans h.o, h.k.then_ (kept_below hb) (fun _ h => .inl h), h.b.trans (hb.mono hB)⟩
theorem On.drew (h : On B f W w1 g gr b2 b3 v vr room T s kd dk nn tx) : On B f W w1.drew g gr b2 b3 v vr room T s kd dk nn tx :=
  ⟨h.d.move (fun _ _ _ => rfl), h.r.move (fun _ _ _ => rfl), h.x, h.o, h.k, below_drew h.b⟩
theorem On.c0 (h : On B f W w1 g gr b2 b3 v vr room T s kd dk nn tx) : w1.cell? ⟨b2, 0, none⟩ = some (.pointer (some ⟨g, 0, none⟩)) := cells_at h.x 0
theorem On.c1 (h : On B f W w1 g gr b2 b3 v vr room T s kd dk nn tx) : w1.cell? ⟨b2, 1, none⟩ = some (.pointer (some ⟨gr, 0, none⟩)) := cells_at h.x 1
theorem On.o0 (h : On B f W w1 g gr b2 b3 v vr room T s kd dk nn tx) : w1.cell? ⟨b3, 0, none⟩ = some (.int .i64 kd) := cells_at h.o 0
theorem On.o2 (h : On B f W w1 g gr b2 b3 v vr room T s kd dk nn tx) : w1.cell? ⟨b3, 2, none⟩ = some (.string tx) := cells_at h.o 2
theorem On.o3 (h : On B f W w1 g gr b2 b3 v vr room T s kd dk nn tx) : w1.cell? ⟨b3, 3, none⟩ = some (.int .i64 nn) := cells_at h.o 3
end
end Go.Proofs.Ytcoodlncjnekoaa.E
