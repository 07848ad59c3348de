/- A list that is gone on with while its beginning is still looked at. Conditions: each theorem's own. -/
import Derived.Test.YtcoodlncjnekoaaAy
namespace Go.Proofs.Ytcoodlncjnekoaa.F
open Go.RowKit Go.Proofs.YtcoodlncjnekoaaW.PrintWords Go.Proofs.JournalPlain
set_option linter.unusedVariables false
/-- A list that is only looked at, told by its own block. -/
def RdF (w : World) (g : Value) (Z : List S23) : Prop := ∃ A c, g = .slice A Z.length c ∧ Z.length ≤ c ∧ Kd.F k23 w (fun b => g.ownBlock = some b) A Z.length Z
theorem RdF.keep {w w' : World} {g : Value} {Z : List S23} (h : RdF w g Z) (hk : ∀ b, g.ownBlock = some b → b < w.heap.size → w'.heap[b]? = w.heap[b]?) : RdF w' g Z := by
  obtain ⟨A, c, e, hc, hF⟩ := h
  exact ⟨A, c, e, hc, Kd.F_step hF hk⟩
theorem RdF.read {w : World} {g : Value} {Z : List S23} (h : RdF w g Z) : ∃ A c, g = .slice A Z.length c ∧ Z.length ≤ c ∧ Kd.C k23 w A Z.length Z := by
  obtain ⟨A, c, e, hc, hF⟩ := h
  exact ⟨A, c, e, hc, Kd.F_now hF⟩
theorem RdF.of {w : World} {B : Nat} {g : Value} {Z : List S23} (h : Rt w B g Z) : RdF w g Z := by
  obtain ⟨A, c, e⟩ := Kd.R_slice h
  subst e
  exact ⟨A, c, rfl, (Kd.R_reads' h).2.1, Kd.R_F h⟩
/-- v goes on with g (whose entries are Z): since world wi; L: what v holds. -/
structure Lg (wi wr : World) (B : Nat) (g : Value) (Z : List S23) (v : Value) (L : List S23) : Prop where
  row : Rt wr B v L
  st : (∃ A n2 c1 c2, g = .slice A Z.length c1 ∧ Z.length ≤ c1 ∧ v = .slice A n2 c2) ∨ (RdF wr g Z ∧ ∀ b, v.ownBlock = some b → wi.heap.size ≤ b)
  near : ∀ b, b < wi.heap.size → g.ownBlock ≠ some b → wr.heap[b]? = wi.heap[b]?
  blw : Below B wi wr
  bs : B ≤ wi.heap.size
  pre : L.take Z.length = Z
  ln : Z.length ≤ L.length
theorem Lg.start {w : World} {B : Nat} {g : Value} {Z : List S23} (h : Rt w B g Z) (hb : B ≤ w.heap.size) : Lg w w B g Z g Z := by
  obtain ⟨A, c, e⟩ := Kd.R_slice h
  exact ⟨h, .inl ⟨A, _, c, c, e, by subst e; exact (Kd.R_reads' h).2.1, e⟩, fun _ _ _ => rfl, Below.refl _ _, hb, List.take_length, Nat.le_refl _⟩
theorem Lg.lt {wi wr : World} {B : Nat} {g : Value} {Z : List S23} {v : Value} {L : List S23} (h : Lg wi wr B g Z v L) (hg : ∀ b, g.ownBlock = some b → b < wi.heap.size) : ∀ b, v.ownBlock = some b → g.ownBlock = some b ∨ wi.heap.size ≤ b := by
  intro b hb
  rcases h.st with ⟨A, n2, c1, c2, e1, _, e2⟩ | ⟨_, h2⟩
  · left
    rw [e1]
    rw [e2] at hb
    cases A <;> exact hb
  · exact .inr (h2 b hb)
theorem Lg.app {wi wr w' : World} {B : Nat} {g : Value} {Z : List S23} {v v' : Value} {L : List S23} {p : S23} (h : Lg wi wr B g Z v L) (hg : ∀ b, g.ownBlock = some b → b < wi.heap.size)
    (hr : Rt w' B v' (L ++ [p])) (hb : Below B wr w') (hgr : wr.grownBy w' v.ownBlock)
    (ht : (∃ g n c, v = .slice (some ⟨g, 0, none⟩) n c ∧ v' = .slice (some ⟨g, 0, none⟩) (n + 1) c) ∨ (wr.grownBy w' none ∧ ∃ b, v'.ownBlock = some b ∧ wr.heap.size ≤ b)) : Lg wi w' B g Z v' (L ++ [p]) := by
  have hsz := h.blw.size
  have hown := h.lt hg
  refine ⟨hr, ?_, fun b hb1 hb2 => ?_, h.blw.trans hb, h.bs, ?_, ?_⟩
  · rcases ht with ⟨k, n, c, e1, e2⟩ | ⟨hn, b, hb1, hb2⟩
    · rcases h.st with ⟨A, n2, c1, c2, e3, hc, e4⟩ | ⟨hF, h2⟩
      · left
        rw [e1] at e4
        injection e4 with e5 _ _
        exact ⟨A, _, c1, _, e3, hc, by rw [e2, e5]⟩
      · right
        have hk := h2 k (by rw [e1]; rfl)
        refine ⟨hF.keep (fun b hb1 hb2 => hgr.block b hb2 (fun e => ?_)), fun b hb1 => ?_⟩
        · rw [e1] at e
          have e6 : b = k := by simpa [Value.ownBlock] using e
          have := hg b hb1
          omega
        · rw [e2] at hb1
          have e6 : k = b := by simpa [Value.ownBlock] using hb1
          omega
    · right
      refine ⟨?_, fun b2 hb3 => ?_⟩
      · rcases h.st with ⟨A, n2, c1, c2, e3, hc, e4⟩ | ⟨hF, h2⟩
        · have hrow := h.row
          rw [e4] at hrow
          have hl := (Kd.R_reads' hrow).1
          have hF := Kd.R_F hrow
          rw [hl] at hF
          have hF2 := Kd.F_take hF h.ln
          have hpre := h.pre
          rw [hpre] at hF2
          have hF3 : Kd.F k23 wr (fun b => g.ownBlock = some b) A Z.length Z := Kd.F_mono hF2 (fun b hb4 => by
            rw [e3]
            cases A <;> exact hb4)
          exact RdF.keep ⟨A, c1, e3, hc, hF3⟩ (fun b hb4 hb5 => hn.block b hb5 (by simp))
        · exact hF.keep (fun b hb4 hb5 => hn.block b hb5 (by simp))
      · rw [hb1] at hb3
        injection hb3 with hb3
        omega
  · rw [hgr.block b (by omega) (fun e => ?_), h.near b hb1 hb2]
    rcases hown b e.symm with e2 | e2
    · exact hb2 e2
    · omega
  · rw [List.take_append_of_le_length h.ln, h.pre]
  · rw [List.length_append]
    have := h.ln
    omega
/-- The beginning reads as it did. -/
theorem Lg.read {wi wr : World} {B : Nat} {g : Value} {Z : List S23} {v : Value} {L : List S23} (h : Lg wi wr B g Z v L) : RdF wr g Z := by
  rcases h.st with ⟨A, n2, c1, c2, e3, hc, e4⟩ | ⟨hF, _⟩
  · have hrow := h.row
    rw [e4] at hrow
    have hl := (Kd.R_reads' hrow).1
    have hF := Kd.R_F hrow
    rw [hl] at hF
    have hF2 := Kd.F_take hF h.ln
    rw [h.pre] at hF2
    exact ⟨A, c1, e3, hc, Kd.F_mono hF2 (fun b hb4 => by
      rw [e3]
      cases A <;> exact hb4)⟩
  · exact hF
/-- The marks behind list j. -/
def tails (j : Nat) : List S23 := if j % 2 = 0 then List.replicate 12 (⟨-1000 - (j : Int), ⟨#[]⟩⟩ : S23) else []
/-- The first n lists are gone on with. -/
structure Lo (w0 w : World) (S0 B : Nat) (vG vW : Value) (gs ws : List Sv) (Xs Z : Nat → List S23) (vL : Value) (ls : List Sv) (n : Nat) : Prop where
  G : Rs w B vG gs
  W : Rs w B vW ws
  ww : ∀ i, i < 6 → Rt w B (encS (ws.getD i dS)) (Xs i)
  b : Below B w0 w
  bs : B ≤ S0
  s0 : S0 ≤ w.heap.size
  later : ∀ j, n ≤ j → j < 6 → Rt w B (encS (gs.getD j dS)) (Z j)
  done : ∀ j, j < n → j < 6 → Rt w B (encS (ls.getD j dS)) (Z j ++ tails j) ∧ RdF w (encS (gs.getD j dS)) (Z j) ∧ ∀ b, (encS (ls.getD j dS)).ownBlock = some b → (encS (gs.getD j dS)).ownBlock = some b ∨ S0 ≤ b
  long : Rs w B vL ls
  ln : ls.length = n
  old : (∀ b, vG.ownBlock = some b → b < S0) ∧ (∀ b, vW.ownBlock = some b → b < S0) ∧ (∀ b, vL.ownBlock = some b → S0 ≤ b) ∧ (∀ j, j < 6 → ∀ b, (encS (gs.getD j dS)).ownBlock = some b → b < S0) ∧ (∀ j, j < 6 → ∀ b, (encS (ws.getD j dS)).ownBlock = some b → b < S0)
theorem Lo.start {w0 w : World} {B : Nat} {vG vW : Value} {gs ws : List Sv} {Xs Z : Nat → List S23} (h : Sp w0 w B vG vW gs ws Xs Z) : Lo w0 w w.heap.size B vG vW gs ws Xs Z (.slice none 0 0) [] 0 :=
  ⟨h.G, h.W, h.ww, h.b, h.bs, Nat.le_refl _, fun j _ hj => h.g j hj, fun j hj => absurd hj (Nat.not_lt_zero _), Rs.of (Kd.R_nil kS 28 w B (fun _ => True)), rfl,
    Kd.R_lt h.G, Kd.R_lt h.W, fun b hb => by simp [Value.ownBlock] at hb, fun j hj => Kd.R_lt (h.g j hj), fun j hj => Kd.R_lt (h.ww j hj)⟩
theorem typ_ne {w : World} {B1 B2 : Nat} {v u : Value} {X : List Sv} {Y : List S23} (h : Rs w B1 v X) (h2 : Rt w B2 u Y) : ∀ b, v.ownBlock = some b → u.ownBlock ≠ some b := by
  intro b hb hb2
  obtain ⟨c1, h3⟩ := Kd.R_typed h b hb
  obtain ⟨c2, h4⟩ := Kd.R_typed h2 b hb2
  rw [h3] at h4
  injection h4 with h4
  injection h4 with _ h4 _
  exact absurd h4 (by decide)
/-- Behind the inner loop: list n is gone on with; it is not yet told in the list of all. -/
theorem Lo.mid {w0 w w' : World} {S0 B : Nat} {vG vW : Value} {gs ws : List Sv} {Xs Z : Nat → List S23} {vL : Value} {ls : List Sv} {n : Nat} (h : Lo w0 w S0 B vG vW gs ws Xs Z vL ls n) (hd : Di gs ws) (hn : n < 6) {v : Value} {L : List S23}
    (hg : Lg w w' B (encS (gs.getD n dS)) (Z n) v L) :
    Rs w' B vG gs ∧ Rs w' B vW ws ∧ (∀ i, i < 6 → Rt w' B (encS (ws.getD i dS)) (Xs i)) ∧ Below B w0 w' ∧ S0 ≤ w'.heap.size ∧ (∀ j, n + 1 ≤ j → j < 6 → Rt w' B (encS (gs.getD j dS)) (Z j)) ∧
    (∀ j, j < n → j < 6 → Rt w' B (encS (ls.getD j dS)) (Z j ++ tails j) ∧ RdF w' (encS (gs.getD j dS)) (Z j) ∧ ∀ b, (encS (ls.getD j dS)).ownBlock = some b → (encS (gs.getD j dS)).ownBlock = some b ∨ S0 ≤ b) ∧ Rs w' B vL ls := by
  have hrow := h.later n (Nat.le_refl _) hn
  obtain ⟨o1, o2, o3, o4, o5⟩ := h.old
  refine ⟨h.G.keep (fun b hb hs => hg.near b hs (typ_ne h.G hrow b hb)), h.W.keep (fun b hb hs => hg.near b hs (typ_ne h.W hrow b hb)), fun i hi => (h.ww i hi).keep (fun b hb hs => hg.near b hs (fun e => hd.gw n i hn hi b e hb)), h.b.trans hg.blw, Nat.le_trans h.s0 hg.blw.size, fun j hj hj6 => (h.later j (by omega) hj6).keep (fun b hb hs => hg.near b hs (fun e => hd.gg n j hn hj6 (by omega) b e hb)), fun j hj hj6 => ?_, h.long.keep (fun b hb hs => hg.near b hs (typ_ne h.long hrow b hb))⟩
  obtain ⟨d1, d2, d3⟩ := h.done j hj hj6
  refine ⟨d1.keep (fun b hb hs => hg.near b hs (fun e => ?_)), d2.keep (fun b hb hs => hg.near b hs (fun e => hd.gg n j hn hj6 (by omega) b e hb)), d3⟩
  rcases d3 b hb with e2 | e2
  · exact hd.gg n j hn hj6 (by omega) b e e2
  · have := o4 n hn b e
    omega
/-- .. and told. -/
theorem Lo.next {w0 w w' w2 : World} {S0 B : Nat} {vG vW : Value} {gs ws : List Sv} {Xs Z : Nat → List S23} {vL vL2 : Value} {ls : List Sv} {n : Nat} (h : Lo w0 w S0 B vG vW gs ws Xs Z vL ls n) (hd : Di gs ws) (hn : n < 6) {x : Sv}
    (hg : Lg w w' B (encS (gs.getD n dS)) (Z n) (encS x) (Z n ++ tails n)) (hr : Rs w2 B vL2 (ls ++ [x])) (hb : Below B w' w2) (hgr : w'.grownBy w2 vL.ownBlock) (hat : vL2.ownBlock = vL.ownBlock ∨ ∃ b, vL2.ownBlock = some b ∧ w'.heap.size ≤ b) :
    Lo w0 w2 S0 B vG vW gs ws Xs Z vL2 (ls ++ [x]) (n + 1) := by
  obtain ⟨m1, m2, m3, m4, m5, m6, m7, m8⟩ := h.mid hd hn hg
  obtain ⟨o1, o2, o3, o4, o5⟩ := h.old
  have hne : ∀ {u : Value} {Y : List S23}, Rt w' B u Y → ∀ b, u.ownBlock = some b → b < w'.heap.size → w2.heap[b]? = w'.heap[b]? := fun hu b hb1 hb2 => hgr.block b hb2 (fun e => typ_ne m8 hu b e.symm hb1)
  have hold : ∀ b, b < S0 → b < w'.heap.size → w2.heap[b]? = w'.heap[b]? := fun b h1 h2 => hgr.block b h2 (fun e => by have := o3 b e.symm; omega)
  refine ⟨m1.keep (fun b hb1 hb2 => hold b (o1 b hb1) hb2), m2.keep (fun b hb1 hb2 => hold b (o2 b hb1) hb2), fun i hi => (m3 i hi).keep (hne (m3 i hi)), m4.trans hb, h.bs, Nat.le_trans m5 hb.size, fun j hj hj6 => (m6 j hj hj6).keep (hne (m6 j hj hj6)), fun j hj hj6 => ?_, hr, by rw [List.length_append, h.ln]; rfl, o1, o2, ?_, o4, o5⟩
  · rcases Nat.lt_or_ge j n with c | c
    · obtain ⟨d1, d2, d3⟩ := m7 j c hj6
      have e : (ls ++ [x]).getD j dS = ls.getD j dS := by
        rw [List.getD_eq_getElem?_getD, List.getD_eq_getElem?_getD, List.getElem?_append_left (by rw [h.ln]; exact c)]
      rw [e]
      exact ⟨d1.keep (hne d1), d2.keep (fun b hb1 hb2 => hold b (o4 j hj6 b hb1) hb2), d3⟩
    · obtain rfl : j = n := by omega
      have e : (ls ++ [x]).getD j dS = x := by
        rw [List.getD_eq_getElem?_getD, List.getElem?_append_right (by rw [h.ln]; exact Nat.le_refl _), h.ln, Nat.sub_self]
        rfl
      rw [e]
      refine ⟨hg.row.keep (hne hg.row), hg.read.keep (fun b hb1 hb2 => hold b (o4 j hj6 b hb1) hb2), fun b hb1 => ?_⟩
      rcases hg.lt (fun b hb2 => Nat.lt_of_lt_of_le (o4 j hj6 b hb2) h.s0) b hb1 with e2 | e2
      · exact .inl e2
      · exact .inr (Nat.le_trans h.s0 e2)
  · intro b hb1
    rcases hat with e2 | ⟨b2, e2, e3⟩
    · rw [e2] at hb1
      exact o3 b hb1
    · rw [e2] at hb1
      injection hb1 with hb1
      omega
end Go.Proofs.Ytcoodlncjnekoaa.F
