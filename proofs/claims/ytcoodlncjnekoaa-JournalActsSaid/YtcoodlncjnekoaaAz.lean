import Derived.Test.YtcoodlncjnekoaaAx
import Derived.Deep.AppendLies
/- append onto a list of entries, told in two ways: in its own block, or moved and nothing touched. Conditions: each theorem's own. -/
namespace Go.Proofs.Ytcoodlncjnekoaa.F
open Go.RowKit Go.Proofs.YtcoodlncjnekoaaW.PrintWords Go.Proofs.JournalPlain
set_option linter.unusedVariables false
set_option maxHeartbeats 1000000 in
theorem run_append_two (w : World) (t ty : TypeId) (base : Nat) (e : TypeId) (i : TypeInfo) (z : Value) (size bytes : Nat) (ht : Try.prog.underlying t = some (.slice e)) (hi : Try.prog.info? e = some i) (hz : i.zero = some z)
    (hsize : i.size = size) (hby : i.bytes = bytes) (hzs : z.cells.size = size) (hsz : 0 < size)
    (v : Value) (n : Nat) (xs : List Value) (hown : w.ownsRow base e size v n xs)
    (ad : Addr) (m c : Nat) (news : List Value) (hl : news.length = m * size) (hnews : ∀ j u, news[j]? = some u → w.cell? (ad.add j) = some u) (h1 : ∀ u ∈ news, u.oneCell' = true)
    (hm : 0 < m) (h63 : n + m ≤ maxLen) (hbytes : (n + m) * bytes ≤ 140737488355328) (hbase : base ≤ w.heap.size) :
    ∃ v' w', (Builtin.append_ #[t, t] ty #[v, .slice (some ad) m c]).run Try.prog w = .ok v' w' ∧ w'.ownsRow base e size v' (n + m) (xs ++ news) ∧ w.grownBy w' v.ownBlock ∧ (v'.ownBlock = v.ownBlock ∨ v'.ownBlock = some w.heap.size) ∧
      ((∃ g cap, v = .slice (some ⟨g, 0, none⟩) n cap ∧ v' = .slice (some ⟨g, 0, none⟩) (n + m) cap) ∨ (w.grownBy w' none ∧ v'.ownBlock = some w.heap.size)) := by
  obtain ⟨v', w', hr, h2, h3, _, h5⟩ := run_append_own_at (P := Try.prog) w base t ty e i z size bytes ht hi hz hsize hby hzs hsz v n xs hown ad m c news hl hnews h1 h63 hbytes hbase
  refine ⟨v', w', hr, h2, h3, h5, ?_⟩
  obtain ⟨g', cap', hv', _, _⟩ := h2.form (by omega)
  rcases hown.2 with ⟨rfl, rfl⟩ | ⟨g, cap, cur, rfl, hbg, hg, hnc, hcm, hcs, htake⟩
  · right
    refine ⟨h3, ?_⟩
    rcases h5 with h5 | h5
    · rw [hv'] at h5
      exact absurd h5 (by simp [Value.ownBlock])
    · exact h5
  · subst hsize
    subst hby
    by_cases hroom : n + m ≤ cap
    · left
      have hfit : n * i.size + news.length ≤ cur.size := by rw [hl, hcs, ← Nat.add_mul]; exact Nat.mul_le_mul_right _ hroom
      have hr2 := run_append_room (P := Try.prog) w t ty e i ht hi g n cap cur hg ad m c news hl hnews h1 hroom hfit
      rw [hr] at hr2
      injection hr2 with e1 e2
      exact ⟨g, cap, rfl, e1⟩
    · right
      have hsmall : n + m ≤ 9223372036854775807 := by simp only [maxLen] at h63; omega
      have holds : ∀ j u, xs[j]? = some u → w.cell? ((⟨g, 0, none⟩ : Addr).add j) = some u := hown.cells (g := g) rfl
      have hr2 := run_append_grow (P := Try.prog) w t ty e i z ht hi hz ⟨g, 0, none⟩ n cap xs hown.1 holds ad m c news hl hnews (by omega) (by omega) (growslice_fits (by omega) hbytes)
      rw [hr] at hr2
      injection hr2 with e1 e2
      refine ⟨?_, by rw [e1]; rfl⟩
      rw [e2]
      have hd : w.grownBy w.drew none := ⟨rfl, rfl, rfl, Nat.le_refl _, fun k hk _ => rfl⟩
      exact hd.trans (World.grownBy_alloc _ _ _)
theorem app23 (W : World) (B : Nat) (v : Value) (X : List S23) (x : Int) (y : ByteArray) (h : Rt W B v X) (hB : B ≤ W.heap.size) (hl : X.length ≤ 2000000) :
    ∃ v' w', (Builtin.append_ #[28, 28] 28 #[v, .slice (some ⟨W.heap.size, 0, none⟩) 1 1]).run Try.prog (W.alloc (.cells #[.int .i64 x, .string y] 23)) = .ok v' w' ∧ Rt w' B v' (X ++ [(⟨x, y⟩ : S23)]) ∧ Below B W w' ∧ W.grownBy w' v.ownBlock ∧
      ((∃ g n c, v = .slice (some ⟨g, 0, none⟩) n c ∧ v' = .slice (some ⟨g, 0, none⟩) (n + 1) c) ∨ (W.grownBy w' none ∧ ∃ b, v'.ownBlock = some b ∧ W.heap.size ≤ b)) := by
  have h' : Kd.R k23 23 W B (fun _ => True) v X := Kd.R_mono h (fun _ _ => trivial)
  obtain ⟨hok, inner, ho, hr⟩ := h'
  obtain ⟨i0, hi, hzz⟩ := Option.map_eq_some_iff.1 info23
  simp only [Prod.mk.injEq] at hzz
  obtain ⟨hz0, hz1, hz2⟩ := hzz
  obtain ⟨v', w', hrun, h2, h3, h4, h5⟩ := run_append_two (W.alloc (.cells #[.int .i64 x, .string y] 23)) 28 28 B 23 i0 _ 2 24 Try.underlying28 hi hz0 hz1 hz2 rfl (by decide) v X.length inner (ho.alloc _) ⟨W.heap.size, 0, none⟩ 1 1 [.int .i64 x, .string y] rfl
    (by simpa using World.news_of_block (cs := #[Value.int .i64 x, .string y]) (t := 23) (fr := (0, 0)) (heap_alloc_new W (.cells #[.int .i64 x, .string y] 23))) (by intro u hu; simp at hu; rcases hu with rfl | rfl <;> rfl) (by decide) (by simp only [maxLen]; omega) (by omega) (by simp; omega)
  have hga : W.grownBy w' v.ownBlock := World.grownBy.trans (World.grownBy_alloc W _ _) h3
  have hat : v'.ownBlock = v.ownBlock ∨ ∃ b, v'.ownBlock = some b ∧ W.heap.size ≤ b := by
    rcases h4 with h4 | h4
    · exact .inl h4
    · exact .inr ⟨_, h4, by simp⟩
  refine ⟨v', w', hrun, ?_, ?_, hga, ?_⟩
  · exact Rt.of (Kd.R_appended hok hr (k23_mkM W B (fun _ => False) (⟨x, y⟩ : S23)) (fun _ hk => hk.elim) (fun _ _ => trivial) h2 hga hat)
  · exact (Below.refl B W).grown hga hB (own_base ho)
  · rcases h5 with ⟨g, cap, e1, e2⟩ | ⟨g1, g2⟩
    · exact .inl ⟨g, _, cap, e1, e2⟩
    · exact .inr ⟨World.grownBy.trans (World.grownBy_alloc W _ _) g1, _, g2, by simp⟩
end Go.Proofs.Ytcoodlncjnekoaa.F
/- A list that is gone on with while its beginning is still looked at. Conditions: each theorem's own. -/
namespace Go.Proofs.Ytcoodlncjnekoaa.F
open Go.RowKit Go.Proofs.YtcoodlncjnekoaaW.PrintWords Go.Proofs.JournalPlain
set_option linter.unusedVariables false
/-- A list that is only looked at, told by its own block. -/
def RdF (w : World) (g : Value) (Z : List S23) : Prop := ∃ A c, g = .slice A Z.length c ∧ Z.length ≤ c ∧ Kd.F k23 w (fun b => g.ownBlock = some b) A Z.length Z
theorem RdF.keep {w w' : World} {g : Value} {Z : List S23} (h : RdF w g Z) (hk : ∀ b, g.ownBlock = some b → b < w.heap.size → w'.heap[b]? = w.heap[b]?) : RdF w' g Z := by
  obtain ⟨A, c, e, hc, hF⟩ := h
  exact ⟨A, c, e, hc, Kd.F_step hF hk⟩
theorem RdF.of {w : World} {B : Nat} {g : Value} {Z : List S23} (h : Rt w B g Z) : RdF w g Z := by
  obtain ⟨A, c, e⟩ := Kd.R_slice h
  subst e
  exact ⟨A, c, rfl, (Kd.R_reads' h).2.1, Kd.R_F h⟩
/-- v goes on with g (whose entries are Z): since world wi; L: what v holds. -/
structure Lg (wi wr : World) (B : Nat) (g : Value) (Z : List S23) (v : Value) (L : List S23) : Prop where
  row : Rt wr B v L
  st : (∃ A n2 c1 c2, g = .slice A Z.length c1 ∧ Z.length ≤ c1 ∧ v = .slice A n2 c2) ∨ (RdF wr g Z ∧ ∀ b, v.ownBlock = some b → wi.heap.size ≤ b)
  near : ∀ b, b < wi.heap.size → g.ownBlock ≠ some b → wr.heap[b]? = wi.heap[b]?
  blw : Below B wi wr
  bs : B ≤ wi.heap.size
  pre : L.take Z.length = Z
  ln : Z.length ≤ L.length
theorem Lg.start {w : World} {B : Nat} {g : Value} {Z : List S23} (h : Rt w B g Z) (hb : B ≤ w.heap.size) : Lg w w B g Z g Z := by
  obtain ⟨A, c, e⟩ := Kd.R_slice h
  exact ⟨h, .inl ⟨A, _, c, c, e, by subst e; exact (Kd.R_reads' h).2.1, e⟩, fun _ _ _ => rfl, Below.refl _ _, hb, List.take_length, Nat.le_refl _⟩
theorem Lg.lt {wi wr : World} {B : Nat} {g : Value} {Z : List S23} {v : Value} {L : List S23} (h : Lg wi wr B g Z v L) (hg : ∀ b, g.ownBlock = some b → b < wi.heap.size) : ∀ b, v.ownBlock = some b → g.ownBlock = some b ∨ wi.heap.size ≤ b := by
  intro b hb
  rcases h.st with ⟨A, n2, c1, c2, e1, _, e2⟩ | ⟨_, h2⟩
  · left
    rw [e1]
    rw [e2] at hb
    cases A <;> exact hb
  · exact .inr (h2 b hb)
/-- The marks behind list j. -/
def tails (j : Nat) : List S23 := if j % 2 = 0 then List.replicate 12 (⟨-1000 - (j : Int), ⟨#[]⟩⟩ : S23) else []
/-- The first n lists are gone on with. -/
structure Lo (w0 w : World) (S0 B : Nat) (vG vW : Value) (gs ws : List Sv) (Xs Z : Nat → List S23) (vL : Value) (ls : List Sv) (n : Nat) : Prop where
  G : Rs w B vG gs
  W : Rs w B vW ws
  ww : ∀ i, i < 6 → Rt w B (encS (ws.getD i dS)) (Xs i)
  b : Below B w0 w
  bs : B ≤ S0
  s0 : S0 ≤ w.heap.size
  later : ∀ j, n ≤ j → j < 6 → Rt w B (encS (gs.getD j dS)) (Z j)
  done : ∀ j, j < n → j < 6 → Rt w B (encS (ls.getD j dS)) (Z j ++ tails j) ∧ RdF w (encS (gs.getD j dS)) (Z j) ∧ ∀ b, (encS (ls.getD j dS)).ownBlock = some b → (encS (gs.getD j dS)).ownBlock = some b ∨ S0 ≤ b
  long : Rs w B vL ls
  ln : ls.length = n
  old : (∀ b, vG.ownBlock = some b → b < S0) ∧ (∀ b, vW.ownBlock = some b → b < S0) ∧ (∀ b, vL.ownBlock = some b → S0 ≤ b) ∧ (∀ j, j < 6 → ∀ b, (encS (gs.getD j dS)).ownBlock = some b → b < S0) ∧ (∀ j, j < 6 → ∀ b, (encS (ws.getD j dS)).ownBlock = some b → b < S0)
theorem Lo.start {w0 w : World} {B : Nat} {vG vW : Value} {gs ws : List Sv} {Xs Z : Nat → List S23} (h : Sp w0 w B vG vW gs ws Xs Z) : Lo w0 w w.heap.size B vG vW gs ws Xs Z (.slice none 0 0) [] 0 :=
  ⟨h.G, h.W, h.ww, h.b, h.bs, Nat.le_refl _, fun j _ hj => h.g j hj, fun j hj => absurd hj (Nat.not_lt_zero _), Rs.of (Kd.R_nil kS 28 w B (fun _ => True)), rfl,
    Kd.R_lt h.G, Kd.R_lt h.W, fun b hb => by simp [Value.ownBlock] at hb, fun j hj => Kd.R_lt (h.g j hj), fun j hj => Kd.R_lt (h.ww j hj)⟩
end Go.Proofs.Ytcoodlncjnekoaa.F
