/- JournalRead: the walk. Condition: the texts' sizes are at most 1048576. -/
import Derived.Test.YtcoodlncjnekoaaRr
import Derived.Test.YtcoodlncjnekoaaAw
namespace Go.Proofs.Ytcoodlncjnekoaa.F
open Go.RowKit Go.Proofs.YtcoodlncjnekoaaW.PrintWords Go.Proofs.JournalPlain
set_option linter.unusedVariables false
def sel (xa xb : Sv) (j : Nat) : Sv := if j = 2 ∨ j = 3 then xb else xa
def Xf (ea eb : List S23) (j : Nat) : List S23 := if j = 2 ∨ j = 3 then eb else ea
def wsel (xa xb : Sv) (n : Nat) : List Sv := (List.range n).map (sel xa xb)
theorem wsel_succ (xa xb : Sv) (n : Nat) : wsel xa xb (n + 1) = wsel xa xb n ++ [sel xa xb n] := by unfold wsel; rw [List.range_succ, List.map_append]; rfl
theorem wsel_len (xa xb : Sv) (n : Nat) : (wsel xa xb n).length = n := by unfold wsel; simp
theorem wsel_get (xa xb : Sv) (n j : Nat) (h : j < n) : (wsel xa xb n).getD j dS = sel xa xb j := by
  unfold wsel
  rw [List.getD_eq_getElem?_getD, List.getElem?_map, List.getElem?_range h]
  rfl
/-- The lists that were told so far. -/
structure Jr (w0 w : World) (S0 B : Nat) (xa xb : Sv) (ea eb : List S23) (v9 v10 : Value) (gs : List Sv) (n : Nat) : Prop where
  G : Rs w B v9 gs
  gl : gs.length = n
  W : Rs w B v10 (wsel xa xb n)
  a : Rt w B (encS xa) ea
  b : Rt w B (encS xb) eb
  g : ∀ j, j < n → Rt w B (encS (gs.getD j dS)) (Xf ea eb j)
  new : ∀ j, j < n → ∀ k, (encS (gs.getD j dS)).ownBlock = some k → S0 ≤ k
  dis : ∀ i j, i < n → j < n → i ≠ j → ∀ k, (encS (gs.getD i dS)).ownBlock = some k → (encS (gs.getD j dS)).ownBlock ≠ some k
  nn : ∀ k, v9.ownBlock = some k → v10.ownBlock ≠ some k
  old : (∀ k, (encS xa).ownBlock = some k → k < S0) ∧ (∀ k, (encS xb).ownBlock = some k → k < S0)
  be : Below B w0 w
  bs : B ≤ S0
  s0 : S0 ≤ w.heap.size
theorem Jr.below {w0 w w' : World} {S0 B : Nat} {xa xb : Sv} {ea eb : List S23} {v9 v10 : Value} {gs : List Sv} {n : Nat} (h : Jr w0 w S0 B xa xb ea eb v9 v10 gs n) (hb : Below w.heap.size w w') : Jr w0 w' S0 B xa xb ea eb v9 v10 gs n :=
  ⟨h.G.below hb, h.gl, h.W.below hb, h.a.below hb, h.b.below hb, fun j hj => (h.g j hj).below hb, h.new, h.dis, h.nn, h.old, h.be.trans (bweak hb (Nat.le_trans h.bs h.s0)), h.bs, Nat.le_trans h.s0 hb.size⟩
theorem getD_left (gs : List Sv) (x : Sv) (j : Nat) (h : j < gs.length) : (gs ++ [x]).getD j dS = gs.getD j dS := by
  rw [List.getD_eq_getElem?_getD, List.getD_eq_getElem?_getD, List.getElem?_append_left h]
theorem getD_last (gs : List Sv) (x : Sv) : (gs ++ [x]).getD gs.length dS = x := by
  rw [List.getD_eq_getElem?_getD, List.getElem?_append_right (Nat.le_refl _), Nat.sub_self]
  rfl
/-- One more. -/
theorem Jr.next {w0 w w1 w2 w3 : World} {S0 B : Nat} {xa xb : Sv} {ea eb : List S23} {v9 v10 v9' v10' : Value} {gs : List Sv} {n : Nat} (h : Jr w0 w S0 B xa xb ea eb v9 v10 gs n) {x : Sv}
    (hb1 : Below w.heap.size w w1) (hx : Rt w1 B (encS x) (Xf ea eb n)) (hx2 : ∀ k, (encS x).ownBlock = some k → w.heap.size ≤ k)
    (r2 : Rs w2 B v9' (gs ++ [x])) (b2 : Below B w1 w2) (g2 : w1.grownBy w2 v9.ownBlock) (t2 : v9'.ownBlock = v9.ownBlock ∨ ∃ b, v9'.ownBlock = some b ∧ w1.heap.size ≤ b)
    (r3 : Rs w3 B v10' (wsel xa xb n ++ [sel xa xb n])) (b3 : Below B w2 w3) (g3 : w2.grownBy w3 v10.ownBlock) (t3 : v10'.ownBlock = v10.ownBlock ∨ ∃ b, v10'.ownBlock = some b ∧ w2.heap.size ≤ b) :
    Jr w0 w3 S0 B xa xb ea eb v9' v10' (gs ++ [x]) (n + 1) := by
  have h1 := h.below hb1
  have n2 : ∀ {u : Value} {Y : List S23}, Rt w1 B u Y → Rt w2 B u Y := fun hu => hu.keep (fun k hk hs => g2.block k hs (fun e => typ_ne h1.G hu k e.symm hk))
  have W2 : Rs w2 B v10 (wsel xa xb n) := h1.W.keep (fun k hk hs => g2.block k hs (fun e => h.nn k e.symm hk))
  have n3 : ∀ {u : Value} {Y : List S23}, Rt w2 B u Y → Rt w3 B u Y := fun hu => hu.keep (fun k hk hs => g3.block k hs (fun e => typ_ne W2 hu k e.symm hk))
  have hsz1 := hb1.size
  have hsz2 := b2.size
  have hsz3 := b3.size
  have hlt9 : ∀ k, v9.ownBlock = some k → k < w.heap.size := Kd.R_lt h.G
  have hlt10 : ∀ k, v10.ownBlock = some k → k < w.heap.size := Kd.R_lt h.W
  have hltg : ∀ j, j < n → ∀ k, (encS (gs.getD j dS)).ownBlock = some k → k < w.heap.size := fun j hj => Kd.R_lt (h.g j hj)
  have hlt9' : ∀ k, v9'.ownBlock = some k → k < w2.heap.size := Kd.R_lt r2
  have hn9 : ∀ k, v9'.ownBlock = some k → v10.ownBlock ≠ some k := by
    intro k hk e
    rcases t2 with e2 | ⟨b, e2, e3⟩
    · rw [e2] at hk
      exact h.nn k hk e
    · rw [e2] at hk
      injection hk with hk
      have := hlt10 k e
      omega
  refine ⟨r2.keep (fun k hk hs => g3.block k hs (fun e => hn9 k hk e.symm)), by rw [List.length_append, h.gl]; rfl, by rw [wsel_succ]; exact r3, n3 (n2 h1.a), n3 (n2 h1.b), fun j hj => ?_, fun j hj k hk => ?_, fun i j hi hj hij k hk => ?_, fun k hk => ?_, h.old, (h1.be.trans b2).trans b3, h.bs, by have := h1.s0; omega⟩
  · rcases Nat.lt_or_ge j n with c | c
    · rw [getD_left gs x j (by rw [h.gl]; exact c)]
      exact n3 (n2 (h1.g j c))
    · obtain rfl : j = n := by omega
      have e := getD_last gs x
      rw [h.gl] at e
      rw [e]
      exact n3 (n2 hx)
  · rcases Nat.lt_or_ge j n with c | c
    · rw [getD_left gs x j (by rw [h.gl]; exact c)] at hk
      exact h.new j c k hk
    · obtain rfl : j = n := by omega
      have e := getD_last gs x
      rw [h.gl] at e
      rw [e] at hk
      have := hx2 k hk
      have := h.s0
      omega
  · have en := getD_last gs x
    rw [h.gl] at en
    rcases Nat.lt_or_ge i n with c | c
    · rw [getD_left gs x i (by rw [h.gl]; exact c)] at hk
      rcases Nat.lt_or_ge j n with d | d
      · rw [getD_left gs x j (by rw [h.gl]; exact d)]
        exact h.dis i j c d hij k hk
      · obtain rfl : j = n := by omega
        rw [en]
        intro e
        have := hltg i c k hk
        have := hx2 k e
        omega
    · obtain rfl : i = n := by omega
      rw [en] at hk
      rw [getD_left gs x j (by rw [h.gl]; omega)]
      intro e
      have := hltg j (by omega) k e
      have := hx2 k hk
      omega
  · intro e
    rcases t3 with e3 | ⟨b, e3, e4⟩
    · rw [e3] at e
      exact hn9 k hk e
    · rw [e3] at e
      injection e with e
      have := hlt9' k hk
      omega
theorem Jr.start {w0 w : World} {B : Nat} {xa xb : Sv} {ea eb : List S23} (ha : Rt w B (encS xa) ea) (hb : Rt w B (encS xb) eb) (be : Below B w0 w) (bs : B ≤ w.heap.size) : Jr w0 w w.heap.size B xa xb ea eb (.slice none 0 0) (.slice none 0 0) [] 0 :=
  ⟨Rs.of (Kd.R_nil kS 28 w B (fun _ => True)), rfl, Rs.of (Kd.R_nil kS 28 w B (fun _ => True)), ha, hb, fun j hj => absurd hj (Nat.not_lt_zero _), fun j hj => absurd hj (Nat.not_lt_zero _), fun i j hi => absurd hi (Nat.not_lt_zero _), fun k hk => by simp [Value.ownBlock] at hk, ⟨Kd.R_lt ha, Kd.R_lt hb⟩, be, bs, Nat.le_refl _⟩
/-- What apart is handed. -/
theorem Jr.sp {w0 w : World} {S0 B : Nat} {xa xb : Sv} {ea eb : List S23} {v9 v10 : Value} {gs : List Sv} (h : Jr w0 w S0 B xa xb ea eb v9 v10 gs 6) : Di gs (wsel xa xb 6) ∧ Sp w w B v9 v10 gs (wsel xa xb 6) (Xf ea eb) (Xf ea eb) := by
  have hsel : ∀ j, j < 6 → encS ((wsel xa xb 6).getD j dS) = encS xa ∧ Xf ea eb j = ea ∨ encS ((wsel xa xb 6).getD j dS) = encS xb ∧ Xf ea eb j = eb := by
    intro j hj
    rw [wsel_get xa xb 6 j hj]
    unfold sel Xf
    by_cases c : j = 2 ∨ j = 3
    · right; rw [if_pos c, if_pos c]; exact ⟨rfl, rfl⟩
    · left; rw [if_neg c, if_neg c]; exact ⟨rfl, rfl⟩
  refine ⟨⟨h.gl, wsel_len _ _ _, h.dis, fun i j hi hj k hk e => ?_⟩, ⟨h.G, h.W, h.g, fun j hj => ?_, Below.refl _ _, Nat.le_trans h.bs h.s0⟩⟩
  · have h1 := h.new i hi k hk
    rcases hsel j hj with ⟨e1, _⟩ | ⟨e1, _⟩
    · rw [e1] at e
      have := h.old.1 k e
      omega
    · rw [e1] at e
      have := h.old.2 k e
      omega
  · rcases hsel j hj with ⟨e1, e2⟩ | ⟨e1, e2⟩
    · rw [e1, e2]; exact h.a
    · rw [e1, e2]; exact h.b
end Go.Proofs.Ytcoodlncjnekoaa.F
