import Derived.Test.YtcoodlncjnekoaaRd
import Derived.Test.YtcoodlncjnekoaaTe
import Derived.Lib.Hide
/- JournalRead: the six lists that were told: what 'apart' writes. Conditions: each theorem's own. -/
namespace Go.Proofs.Ytcoodlncjnekoaa.F
open Go.RowKit Go.Proofs.YtcoodlncjnekoaaW.PrintWords Go.Proofs.JournalPlain
set_option linter.unusedVariables false
theorem bweak {B B' : Nat} {a w : World} (h : Below B' a w) (hb : B ≤ B') : Below B a w := ⟨h.os, h.tape, h.output, h.size, fun k hk => h.block k (by omega)⟩
/-- A slice's value. -/
abbrev Sv := Option Addr × Nat × Nat
def encS (x : Sv) : Value := .slice x.1 x.2.1 x.2.2
def kS : Kd Sv := Kd.scalar encS (fun _ => rfl)
def dS : Sv := (none, 0, 0)
/-- A row told by its own block alone. -/
def Rt (w : World) (B : Nat) (v : Value) (X : List S23) : Prop := Kd.R k23 23 w B (fun k => v.ownBlock = some k) v X
def Rs (w : World) (B : Nat) (v : Value) (X : List Sv) : Prop := Kd.R kS 28 w B (fun k => v.ownBlock = some k) v X
theorem Rt.of {w : World} {B : Nat} {ok : Nat → Prop} {v : Value} {X : List S23} (h : Kd.R k23 23 w B ok v X) : Rt w B v X :=
  ⟨fun k hk => hk, h.2.imp_ (fun _ _ hp => hp)⟩
theorem Rs.of {w : World} {B : Nat} {ok : Nat → Prop} {v : Value} {X : List Sv} (h : Kd.R kS 28 w B ok v X) : Rs w B v X :=
  ⟨fun k hk => hk, h.2.imp_ (fun _ _ hp => hp)⟩
theorem Rt.keep {w w' : World} {B : Nat} {v : Value} {X : List S23} (h : Rt w B v X) (hk : ∀ k, v.ownBlock = some k → k < w.heap.size → w'.heap[k]? = w.heap[k]?) : Rt w' B v X := Kd.R_step h hk
theorem Rs.keep {w w' : World} {B : Nat} {v : Value} {X : List Sv} (h : Rs w B v X) (hk : ∀ k, v.ownBlock = some k → k < w.heap.size → w'.heap[k]? = w.heap[k]?) : Rs w' B v X := Kd.R_step h hk
theorem Rt.below {w w' : World} {B : Nat} {v : Value} {X : List S23} (h : Rt w B v X) (hb : Below w.heap.size w w') : Rt w' B v X := h.keep (fun k _ hk => hb.block k hk)
theorem Rs.below {w w' : World} {B : Nat} {v : Value} {X : List Sv} (h : Rs w B v X) (hb : Below w.heap.size w w') : Rs w' B v X := h.keep (fun k _ hk => hb.block k hk)
/-- The lists that were told (gs, with what they hold: Y), and what they must be (ws: Xs): all in memory of their own. -/
structure Sp (w0 w : World) (B : Nat) (vG vW : Value) (gs ws : List Sv) (Xs Y : Nat → List S23) : Prop where
  G : Rs w B vG gs
  W : Rs w B vW ws
  g : ∀ i, i < 6 → Rt w B (encS (gs.getD i dS)) (Y i)
  ww : ∀ i, i < 6 → Rt w B (encS (ws.getD i dS)) (Xs i)
  b : Below B w0 w
  bs : B ≤ w.heap.size
theorem Sp.below {w0 w w' : World} {B : Nat} {vG vW : Value} {gs ws : List Sv} {Xs Y : Nat → List S23} (h : Sp w0 w B vG vW gs ws Xs Y) (hb : Below w.heap.size w w') : Sp w0 w' B vG vW gs ws Xs Y :=
  ⟨h.G.below hb, h.W.below hb, fun i hi => (h.g i hi).below hb, fun i hi => (h.ww i hi).below hb, h.b.trans (bweak hb h.bs), Nat.le_trans h.bs hb.size⟩
/-- No two of the lists share memory; none shares with what it must be. -/
structure Di (gs ws : List Sv) : Prop where
  lg : gs.length = 6
  lw : ws.length = 6
  gg : ∀ i j, i < 6 → j < 6 → i ≠ j → ∀ k, (encS (gs.getD i dS)).ownBlock = some k → (encS (gs.getD j dS)).ownBlock ≠ some k
  gw : ∀ i j, i < 6 → j < 6 → ∀ k, (encS (gs.getD i dS)).ownBlock = some k → (encS (ws.getD j dS)).ownBlock ≠ some k
/-- One of the lists is written. -/
theorem Sp.put {w0 w w' : World} {B : Nat} {vG vW : Value} {gs ws : List Sv} {Xs Y : Nat → List S23} (h : Sp w0 w B vG vW gs ws Xs Y) (hd : Di gs ws) (m : Nat) (hm : m < 6) (Z : List S23)
    (hr : Rt w' B (encS (gs.getD m dS)) Z) (hg : w.grownBy w' (encS (gs.getD m dS)).ownBlock) (hb : Below B w w') : Sp w0 w' B vG vW gs ws Xs (fun i => if i = m then Z else Y i) := by
  have hty : ∀ k, (encS (gs.getD m dS)).ownBlock = some k → ∃ cells, w.heap[k]? = some (.cells cells 23 (0, 0)) := Kd.R_typed (h.g m hm)
  have hne : ∀ {v : Value} {X : List Sv}, Rs w B v X → ∀ k, v.ownBlock = some k → some k ≠ (encS (gs.getD m dS)).ownBlock := by
    intro v X hR k hk e
    obtain ⟨c1, h1⟩ := Kd.R_typed hR k hk
    obtain ⟨c2, h2⟩ := hty k e.symm
    rw [h1] at h2
    injection h2 with h2
    injection h2 with _ h2 _
    exact absurd h2 (by decide)
  refine ⟨h.G.keep (fun k hk hs => hg.block k hs (hne h.G k hk)), h.W.keep (fun k hk hs => hg.block k hs (hne h.W k hk)), fun i hi => ?_, fun i hi => (h.ww i hi).keep (fun k hk hs => hg.block k hs (fun e => hd.gw m i hm hi k e.symm hk)), h.b.trans hb, Nat.le_trans h.bs hb.size⟩
  by_cases c : i = m
  · subst c
    rw [if_pos rfl]
    exact hr
  · rw [if_neg c]
    exact (h.g i hi).keep (fun k hk hs => hg.block k hs (fun e => hd.gg m i hm hi (fun e => c e.symm) k e.symm hk))
/-- The two ways of saying that two lists are one. -/
theorem Same_eq (k : Nat) : ∀ a b i, gatehouseref22_Same.l0 k a b i = gatehouselaw22_same.l0 k a b i := by
  induction k with
  | zero => intro a b i; rfl
  | succ k ih => intro a b i; rw [gatehouseref22_Same.l0, gatehouselaw22_same.l0, ih]
theorem Same_refl (xs : List S23) (hl : xs.length ≤ 9223372036854775806) (k : Nat) (hk : xs.length + 1 ≤ k) : gatehouseref22_Same.f k xs xs = some true := by
  rw [← same_refl xs hl k hk]
  unfold gatehouseref22_Same.f gatehouselaw22_same.f
  rw [Same_eq]
end Go.Proofs.Ytcoodlncjnekoaa.F
