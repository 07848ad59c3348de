import Derived.Test.YteefneemmdfncaaDoorWc
/- Reasons, plainly: what Explain gives, what Holds asks; that they fit. Conditions: each theorem's own. -/
namespace Go.Proofs.YteefneemmdfncaaDoor.M
open Go.RowKit Go.Proofs.YteefneemmdfncaaDoorW.Raw Go.Proofs.YteefneemmdfncaaDoorW.PrintWords Go.Proofs.YteefneemmdfncaaDoor.F
set_option linter.unusedVariables false
abbrev Rsn := S33
/-- The first place of a list at which something is so. -/
def firstIx {α : Type} (q : α → Bool) : List α → Option Nat
  | [] => none
  | x :: l => if q x then some 0 else (firstIx q l).map (· + 1)
theorem firstIx_none {α : Type} {q : α → Bool} : ∀ {l : List α}, (∀ x ∈ l, q x = false) → firstIx q l = none
  | [], _ => rfl
  | x :: l, h => by
    show (if q x then some 0 else (firstIx q l).map (· + 1)) = none
    rw [h x List.mem_cons_self, firstIx_none (fun y hy => h y (List.mem_cons_of_mem _ hy))]
    rfl
theorem firstIx_some {α : Type} {q : α → Bool} : ∀ {l : List α} {k : Nat} {x : α}, (∀ j y, j < k → l[j]? = some y → q y = false) → l[k]? = some x → q x = true → firstIx q l = some k
  | [], k, x, _, hk, _ => by cases hk
  | a :: l, 0, x, _, hk, hq => by
    have : some a = some x := hk
    injection this with this
    show (if q a then some 0 else (firstIx q l).map (· + 1)) = some 0
    rw [this, hq]
    rfl
  | a :: l, k + 1, x, h, hk, hq => by
    show (if q a then some 0 else (firstIx q l).map (· + 1)) = some (k + 1)
    rw [h 0 a (Nat.succ_pos k) rfl, firstIx_some (l := l) (k := k) (x := x) (fun j y hj hy => h (j + 1) y (by omega) hy) hk hq]
    rfl
/-- The reason that a rule is. -/
def byL (p : Pol) (t : Tri) (i : Nat) (u : Rule) : Rsn := ⟨if u.f0 then 3 else 4, ((i + 1 : Nat) : Int), pathL (p.f5 ++ p.f6) t.f0 u.f1, pathL (p.f7 ++ p.f8) t.f1 u.f2⟩
def ruleQ (p : Pol) (t : Tri) (d : Bool) (u : Rule) : Bool := (u.f0 == d) && matchB p u t
def explL (p : Pol) (t : Tri) : Rsn := if knownB p t = false then ⟨1, 0, [], []⟩ else match firstIx (fun x => eqT x t) p.f10 with
  | some i => ⟨2, ((i + 1 : Nat) : Int), [], []⟩
  | none => match firstIx (ruleQ p t true) p.f9 with
    | some i => (p.f9[i]?).elim ⟨5, 0, [], []⟩ (byL p t i)
    | none => match firstIx (ruleQ p t false) p.f9 with
      | some i => (p.f9[i]?).elim ⟨5, 0, [], []⟩ (byL p t i)
      | none => ⟨5, 0, [], []⟩
/-- Names lead along pairs. -/
def wayB (ps : List Pair) (l : List ByteArray) (a b : ByteArray) : Bool := match l.head?, l.getLast? with
  | some x, some y => x == a && (y == b && chainB ps l)
  | _, _ => false
def bareB (r : Rsn) : Bool := r.f2.isEmpty && r.f3.isEmpty
def ruleB (p : Pol) (t : Tri) (r : Rsn) (u : Rule) : Bool := (u.f0 == decide (r.f0 = 3)) && (matchB p u t && ((u.f0 || allowsB p t) && (wayB (p.f5 ++ p.f6) r.f2 t.f0 u.f1 && wayB (p.f7 ++ p.f8) r.f3 t.f1 u.f2)))
/-- What Holds asks. -/
def holdsL (p : Pol) (t : Tri) (r : Rsn) : Bool :=
  if r.f0 = 1 then bareB r && (decide (r.f1 = 0) && !knownB p t)
  else if r.f0 = 2 then bareB r && (knownB p t && (decide (1 ≤ r.f1) && (decide (r.f1 ≤ p.f10.length) && (p.f10[(r.f1 - 1).toNat]?).elim false (fun x => eqT x t))))
  else if r.f0 = 3 ∨ r.f0 = 4 then decide (1 ≤ r.f1) && (decide (r.f1 ≤ p.f9.length) && (p.f9[(r.f1 - 1).toNat]?).elim false (ruleB p t r))
  else if r.f0 = 5 then bareB r && (decide (r.f1 = 0) && (knownB p t && !(p.f9.any fun u => matchB p u t)))
  else false
inductive Hold (p : Pol) (t : Tri) : Rsn → Prop
  | unk (h : knownB p t = false) : Hold p t ⟨1, 0, [], []⟩
  | exc (h : knownB p t = true) (i : Nat) (hi : p.f10[i]? = some t) : Hold p t ⟨2, ((i + 1 : Nat) : Int), [], []⟩
  | deny (i : Nat) (u : Rule) (hi : p.f9[i]? = some u) (hd : u.f0 = true) (hm : matchB p u t = true) (ws wt : List ByteArray) (h1 : WayP (p.f5 ++ p.f6) ws t.f0 u.f1) (h2 : WayP (p.f7 ++ p.f8) wt t.f1 u.f2) : Hold p t ⟨3, ((i + 1 : Nat) : Int), ws, wt⟩
  | allow (i : Nat) (u : Rule) (hi : p.f9[i]? = some u) (hd : u.f0 = false) (hm : matchB p u t = true) (ha : allowsB p t = true) (ws wt : List ByteArray) (h1 : WayP (p.f5 ++ p.f6) ws t.f0 u.f1) (h2 : WayP (p.f7 ++ p.f8) wt t.f1 u.f2) : Hold p t ⟨4, ((i + 1 : Nat) : Int), ws, wt⟩
  | nothing (h : knownB p t = true) (hn : ∀ u ∈ p.f9, matchB p u t = false) : Hold p t ⟨5, 0, [], []⟩
theorem ruleQ_iff {p : Pol} {t : Tri} {d : Bool} {u : Rule} : ruleQ p t d u = true ↔ u.f0 = d ∧ matchB p u t = true := by
  unfold ruleQ
  rw [Bool.and_eq_true, beq_iff_eq]
theorem expl_deny {p : Pol} {t : Tri} {i : Nat} {u : Rule} (hk : knownB p t = true) (he : firstIx (fun x => eqT x t) p.f10 = none) (hd : firstIx (ruleQ p t true) p.f9 = some i) (hu : p.f9[i]? = some u) : explL p t = byL p t i u := by
  unfold explL
  rw [if_neg (by rw [hk]; decide), he]
  dsimp only
  rw [hd]
  dsimp only
  rw [hu]
  rfl
theorem expl_allow {p : Pol} {t : Tri} {i : Nat} {u : Rule} (hk : knownB p t = true) (he : firstIx (fun x => eqT x t) p.f10 = none) (hd : firstIx (ruleQ p t true) p.f9 = none) (ha : firstIx (ruleQ p t false) p.f9 = some i) (hu : p.f9[i]? = some u) : explL p t = byL p t i u := by
  unfold explL
  rw [if_neg (by rw [hk]; decide), he]
  dsimp only
  rw [hd]
  dsimp only
  rw [ha]
  dsimp only
  rw [hu]
  rfl
theorem expl_exc {p : Pol} {t : Tri} {i : Nat} (hk : knownB p t = true) (he : firstIx (fun x => eqT x t) p.f10 = some i) : explL p t = ⟨2, ((i + 1 : Nat) : Int), [], []⟩ := by
  unfold explL
  rw [if_neg (by rw [hk]; decide), he]
theorem expl_unk {p : Pol} {t : Tri} (hk : knownB p t = false) : explL p t = ⟨1, 0, [], []⟩ := by
  unfold explL
  rw [if_pos hk]
theorem expl_no {p : Pol} {t : Tri} (hk : knownB p t = true) (he : firstIx (fun x => eqT x t) p.f10 = none) (hd : firstIx (ruleQ p t true) p.f9 = none) (ha : firstIx (ruleQ p t false) p.f9 = none) : explL p t = ⟨5, 0, [], []⟩ := by
  unfold explL
  rw [if_neg (by rw [hk]; decide), he]
  dsimp only
  rw [hd]
  dsimp only
  rw [ha]
end Go.Proofs.YteefneemmdfncaaDoor.M
