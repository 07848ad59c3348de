import Derived.Test.YteefneemmdfncaaDa
import Derived.Test.YteefneemmdfncaaOpens
import Derived.Test.YteefneemmdfncaaF12
import Derived.Test.YteefneemmdfncaaF10
import Derived.Test.YteefneemmdfncaaF13
/- Sizes; what the statements' helpers make and answer (twin, small, vast, told, has), plainly and walked. Conditions: each theorem's own. -/
namespace Go.Proofs.Yteefneemmdfncaa.F
open Go.RowKit Go.Proofs.YteefneemmdfncaaW.PrintWords
set_option linter.unusedVariables false
theorem sum_ge {α : Type} (f : α → Nat) (h : ∀ x, 1 ≤ f x) : ∀ l : List α, l.length ≤ (l.map f).sum := by
  intro l
  induction l with
  | nil => exact Nat.le_refl _
  | cons x l ih =>
    rw [List.map_cons, List.sum_cons, List.length_cons]
    have := h x
    omega
theorem sum_mem {α : Type} (f : α → Nat) {x : α} : ∀ {l : List α}, x ∈ l → f x ≤ (l.map f).sum := by
  intro l
  induction l with
  | nil => intro h; cases h
  | cons y l ih =>
    intro h
    rw [List.map_cons, List.sum_cons]
    rcases List.mem_cons.1 h with rfl | h
    · omega
    · have := ih h; omega
theorem acts_le (r : S75) : r.f3.length ≤ b75 r := by
  have s := sum_ge (fun x_ : ByteArray => (x_.size + 1)) (fun _ => Nat.le_add_left _ _) r.f3
  unfold b75
  omega
theorem sz_of (p : S28) (hb : b28 p ≤ 1048576) : M.Sz p := by
  have s0 := sum_ge (fun x_ : ByteArray => (x_.size + 1)) (fun _ => Nat.le_add_left _ _) p.f0
  have s1 := sum_ge (fun x_ : S77 => b77 x_) (fun _ => Nat.le_add_left _ _) p.f1
  have s2 := sum_ge (fun x_ : ByteArray => (x_.size + 1)) (fun _ => Nat.le_add_left _ _) p.f2
  have s3 := sum_ge (fun x_ : ByteArray => (x_.size + 1)) (fun _ => Nat.le_add_left _ _) p.f3
  have s4 := sum_ge (fun x_ : ByteArray => (x_.size + 1)) (fun _ => Nat.le_add_left _ _) p.f4
  have s5 := sum_ge (fun x_ : S105 => b105 x_) (fun _ => Nat.le_add_left _ _) p.f5
  have s6 := sum_ge (fun x_ : S105 => b105 x_) (fun _ => Nat.le_add_left _ _) p.f6
  have s7 := sum_ge (fun x_ : S105 => b105 x_) (fun _ => Nat.le_add_left _ _) p.f7
  have s8 := sum_ge (fun x_ : S105 => b105 x_) (fun _ => Nat.le_add_left _ _) p.f8
  have s9 := sum_ge (fun x_ : S75 => b75 x_) (fun _ => Nat.le_add_left _ _) p.f9
  have s10 := sum_ge (fun x_ : S30 => b30 x_) (fun _ => Nat.le_add_left _ _) p.f10
  have sa : ∀ r ∈ p.f9, b75 r ≤ (p.f9.map (fun x_ : S75 => b75 x_)).sum := fun r hr => sum_mem (fun x_ : S75 => b75 x_) hr
  unfold b28 at hb
  exact ⟨by omega, by omega, by omega, by omega, by omega, by omega, by omega, by omega, by omega, by omega, by omega, fun r hr => by have := sa r hr; have := acts_le r; omega⟩
end Go.Proofs.Yteefneemmdfncaa.F
namespace Go.Proofs.Yteefneemmdfncaa.M
open Go.RowKit Go.Proofs.YteefneemmdfncaaW.Raw Go.Proofs.YteefneemmdfncaaW.PrintWords Go.Proofs.Yteefneemmdfncaa.F
set_option linter.unusedVariables false
theorem names_l0 (l : List ByteArray) (hl : l.length ≤ 1048576) (d : Nat) : ∀ (i : Nat) (x : List ByteArray), i ≤ 20 → 20 - i = d → x.take l.length = l → l.length ≤ x.length → x.length ≤ 1048576 + i → Evt (fun k => gatehouselaw13_names.l0 k l x (i : Int)) l := by
  induction d with
  | zero =>
    intro i x h1 hd ht hx hx2
    refine Evt.now fun k => ?_
    simp only [gatehouselaw13_names.l0]
    rw [if_neg (by omega), if_pos (by omega), if_pos (by omega), Int.toNat_natCast, ht]
  | succ d ih =>
    intro i x h1 hd ht hx hx2
    refine (ih (i + 1) (x ++ [(⟨#[115, 112, 97, 114, 101]⟩ : ByteArray)]) (by omega) (by omega) (by rw [List.take_append_of_le_length hx]; exact ht) (by simp; omega) (by simp; omega)).step fun k => ?_
    simp only [gatehouselaw13_names.l0]
    rw [if_pos (by omega), if_pos (by omega), w1 (by omega)]
theorem names_f (l : List ByteArray) (hl : l.length ≤ 1048576) : Evt (fun k => gatehouselaw13_names.f k l) l := by
  refine (names_l0 l hl 20 0 l (Nat.zero_le _) rfl (List.take_length) (Nat.le_refl _) (by omega)).same fun k => ?_
  unfold gatehouselaw13_names.f
  rw [if_pos (by simp; omega)]
  rfl
theorem pairs_l0 (l : List S105) (hl : l.length ≤ 1048576) (d : Nat) : ∀ (i : Nat) (x : List S105), i ≤ 20 → 20 - i = d → x.take l.length = l → l.length ≤ x.length → x.length ≤ 1048576 + i → Evt (fun k => gatehouselaw13_pairs.l0 k l x (i : Int)) l := by
  induction d with
  | zero =>
    intro i x h1 hd ht hx hx2
    refine Evt.now fun k => ?_
    simp only [gatehouselaw13_pairs.l0]
    rw [if_neg (by omega), if_pos (by omega), if_pos (by omega), Int.toNat_natCast, ht]
  | succ d ih =>
    intro i x h1 hd ht hx hx2
    refine (ih (i + 1) (x ++ [(⟨(⟨#[115, 112, 97, 114, 101]⟩ : ByteArray), (⟨#[]⟩ : ByteArray)⟩ : S105)]) (by omega) (by omega) (by rw [List.take_append_of_le_length hx]; exact ht) (by simp; omega) (by simp; omega)).step fun k => ?_
    simp only [gatehouselaw13_pairs.l0]
    rw [if_pos (by omega), if_pos (by omega), w1 (by omega)]
theorem pairs_f (l : List S105) (hl : l.length ≤ 1048576) : Evt (fun k => gatehouselaw13_pairs.f k l) l := by
  refine (pairs_l0 l hl 20 0 l (Nat.zero_le _) rfl (List.take_length) (Nat.le_refl _) (by omega)).same fun k => ?_
  unfold gatehouselaw13_pairs.f
  rw [if_pos (by simp; omega)]
  rfl
theorem triples_l0 (l : List S30) (hl : l.length ≤ 1048576) (d : Nat) : ∀ (i : Nat) (x : List S30), i ≤ 20 → 20 - i = d → x.take l.length = l → l.length ≤ x.length → x.length ≤ 1048576 + i → Evt (fun k => gatehouselaw13_triples.l0 k l x (i : Int)) l := by
  induction d with
  | zero =>
    intro i x h1 hd ht hx hx2
    refine Evt.now fun k => ?_
    simp only [gatehouselaw13_triples.l0]
    rw [if_neg (by omega), if_pos (by omega), if_pos (by omega), Int.toNat_natCast, ht]
  | succ d ih =>
    intro i x h1 hd ht hx hx2
    refine (ih (i + 1) (x ++ [(⟨(⟨#[115, 112, 97, 114, 101]⟩ : ByteArray), (⟨#[]⟩ : ByteArray), (⟨#[]⟩ : ByteArray)⟩ : S30)]) (by omega) (by omega) (by rw [List.take_append_of_le_length hx]; exact ht) (by simp; omega) (by simp; omega)).step fun k => ?_
    simp only [gatehouselaw13_triples.l0]
    rw [if_pos (by omega), if_pos (by omega), w1 (by omega)]
theorem triples_f (l : List S30) (hl : l.length ≤ 1048576) : Evt (fun k => gatehouselaw13_triples.f k l) l := by
  refine (triples_l0 l hl 20 0 l (Nat.zero_le _) rfl (List.take_length) (Nat.le_refl _) (by omega)).same fun k => ?_
  unfold gatehouselaw13_triples.f
  rw [if_pos (by simp; omega)]
  rfl
theorem twin_l1 (p : Pol) (hs : Sz p) (q0 : List ByteArray) (q2 q3 q4 : List ByteArray) (q5 q6 q7 q8 : List Pair) (q10 : List Tri) (d : Nat) : ∀ (i : Nat) (x : List Sub) (y : List Rule), i ≤ 20 → 20 - i = d → x.take p.f1.length = p.f1 → p.f1.length ≤ x.length → x.length ≤ 1048576 + i → y.take p.f9.length = p.f9 → p.f9.length ≤ y.length → y.length ≤ 1048576 + i →
    Evt (fun k => gatehouselaw13_twin.l1 k (i : Int) p.f0 p.f1 p.f2 p.f3 p.f4 p.f5 p.f6 p.f7 p.f8 p.f9 p.f10 q0 x q2 q3 q4 q5 q6 q7 q8 y q10) (q0, p.f1, q2, q3, q4, q5, q6, q7, q8, p.f9, q10) := by
  have h1 := hs.l1
  have h9 := hs.l9
  induction d with
  | zero =>
    intro i x y hi hd hx1 hx2 hx3 hy1 hy2 hy3
    refine Evt.now fun k => ?_
    simp only [gatehouselaw13_twin.l1]
    rw [if_neg (by omega), if_pos (by omega), if_pos (by omega), if_pos (by omega), if_pos (by omega), Int.toNat_natCast, Int.toNat_natCast, hx1, hy1]
  | succ d ih =>
    intro i x y hi hd hx1 hx2 hx3 hy1 hy2 hy3
    refine (ih (i + 1) (x ++ [(⟨(⟨#[115, 112, 97, 114, 101]⟩ : ByteArray), (0 : Nat)⟩ : Sub)]) (y ++ [(⟨false, (⟨#[115, 112, 97, 114, 101]⟩ : ByteArray), (⟨#[]⟩ : ByteArray), ([] : List ByteArray), 0, (0 : Nat)⟩ : Rule)]) (by omega) (by omega) (by rw [List.take_append_of_le_length hx2]; exact hx1) (by simp; omega) (by simp; omega) (by rw [List.take_append_of_le_length hy2]; exact hy1) (by simp; omega) (by simp; omega)).step fun k => ?_
    simp only [gatehouselaw13_twin.l1]
    rw [if_pos (by omega), if_pos (by omega), if_pos (by omega), w1 (by omega)]
theorem twin_l0 (p : Pol) (hs : Sz p) (q0 : List ByteArray) (q2 q3 q4 : List ByteArray) (q5 q6 q7 q8 : List Pair) (q10 : List Tri) (d : Nat) : ∀ (i : Nat) (y : List Rule), i ≤ p.f9.length → p.f9.length - i = d → y.length = i → y ++ p.f9.drop i = p.f9 →
    Evt (fun k => gatehouselaw13_twin.l0 k (i : Int) p.f0 p.f1 p.f2 p.f3 p.f4 p.f5 p.f6 p.f7 p.f8 p.f9 p.f10 q0 p.f1 q2 q3 q4 q5 q6 q7 q8 y q10) (q0, p.f1, q2, q3, q4, q5, q6, q7, q8, p.f9, q10) := by
  have h1 := hs.l1
  have h9 := hs.l9
  induction d with
  | zero =>
    intro i y hi hd hy he
    rw [List.drop_of_length_le (by omega), List.append_nil] at he
    subst he
    refine (twin_l1 p hs q0 q2 q3 q4 q5 q6 q7 q8 q10 20 0 p.f1 p.f9 (Nat.zero_le _) rfl (List.take_length) (Nat.le_refl _) (by omega) (List.take_length) (Nat.le_refl _) (by omega)).step fun k => ?_
    simp only [gatehouselaw13_twin.l0]
    rw [if_neg (by omega)]
    rfl
  | succ d ih =>
    intro i y hi hd hy he
    have hlt : i < p.f9.length := by omega
    have hdr : p.f9.drop i = p.f9[i] :: p.f9.drop (i + 1) := List.drop_eq_getElem_cons hlt
    have hr := hs.la _ (List.getElem_mem hlt)
    rw [hdr] at he
    have h := ih (i + 1) (y ++ [p.f9[i]]) (by omega) (by omega) (by simp; omega) (by rw [List.append_assoc]; exact he)
    refine Evt.step (Evt.bind (f := fun k t => if y.length < 1759218604441 then gatehouselaw13_twin.l0 k ((i + 1 : Nat) : Int) p.f0 p.f1 p.f2 p.f3 p.f4 p.f5 p.f6 p.f7 p.f8 p.f9 p.f10 q0 p.f1 q2 q3 q4 q5 q6 q7 q8 (y ++ [(⟨p.f9[i].f0, p.f9[i].f1, p.f9[i].f2, t, p.f9[i].f4, p.f9[i].f5⟩ : Rule)]) q10 else none) (names_f p.f9[i].f3 hr) ?_) fun k => ?_
    · refine h.same fun k => ?_
      show (if _ then _ else _) = _
      rw [if_pos (by omega)]
    · simp only [gatehouselaw13_twin.l0]
      rw [if_pos (by omega), if_pos (by omega), rdRule hlt, w1 (by omega)]
theorem twin_f (p : Pol) (hs : Sz p) : Evt (fun k => gatehouselaw13_twin.f k p.f0 p.f1 p.f2 p.f3 p.f4 p.f5 p.f6 p.f7 p.f8 p.f9 p.f10) (tup p) := by
  have h1 := hs.l1
  obtain ⟨k0, e0⟩ := names_f p.f0 hs.l0
  obtain ⟨k2, e2⟩ := names_f p.f2 hs.l2
  obtain ⟨k3, e3⟩ := names_f p.f3 hs.l3
  obtain ⟨k4, e4⟩ := names_f p.f4 hs.l4
  obtain ⟨k5, e5⟩ := pairs_f p.f5 hs.l5
  obtain ⟨k6, e6⟩ := pairs_f p.f6 hs.l6
  obtain ⟨k7, e7⟩ := pairs_f p.f7 hs.l7
  obtain ⟨k8, e8⟩ := pairs_f p.f8 hs.l8
  obtain ⟨k10, e10⟩ := triples_f p.f10 hs.l10
  obtain ⟨kl, el⟩ := twin_l0 p hs p.f0 p.f2 p.f3 p.f4 p.f5 p.f6 p.f7 p.f8 p.f10 p.f9.length 0 [] (Nat.zero_le _) (by omega) rfl rfl
  refine ⟨kl + k0 + k2 + k3 + k4 + k5 + k6 + k7 + k8 + k10, fun k hk => ?_⟩
  have hl := el k (by omega)
  clear el
  dsimp only at e0 e2 e3 e4 e5 e6 e7 e8 e10 hl ⊢
  unfold gatehouselaw13_twin.f
  rw [e0 k (by omega), Option.bind_some, e2 k (by omega), Option.bind_some, e3 k (by omega), Option.bind_some, e4 k (by omega), Option.bind_some, e5 k (by omega), Option.bind_some, e6 k (by omega), Option.bind_some, e7 k (by omega), Option.bind_some, e8 k (by omega), Option.bind_some, e10 k (by omega), Option.bind_some, if_pos (by simp; omega), List.nil_append]
  exact hl
theorem twin_k (p : Pol) (C0 : Array Value) (w : World) (hk : k28.K w p C0.toList) (hs : Sz p) :
    Calls Try.prog 30 #[.agg C0] w fun e w' => ∃ C1 : Array Value, e = .returned (.agg C1) ∧ k28.K w' p C1.toList ∧ Below w.heap.size w w' := by
  obtain ⟨k, hk2⟩ := twin_f p hs
  obtain ⟨A0, c0, A1, c1, A2, c2, A3, c3, A4, c4, A5, c5, A6, c6, A7, c7, A8, c8, A9, c9, A10, c10, e_, l0, g0, l1, g1, l2, g2, l3, g3, l4, g4, l5, g5, l6, g6, l7, g7, l8, g8, l9, g9, l10, g10⟩ := k28_open hk
  obtain rfl : C0 = #[.slice A0 p.f0.length c0, .slice A1 p.f1.length c1, .slice A2 p.f2.length c2, .slice A3 p.f3.length c3, .slice A4 p.f4.length c4, .slice A5 p.f5.length c5, .slice A6 p.f6.length c6, .slice A7 p.f7.length c7, .slice A8 p.f8.length c8, .slice A9 p.f9.length c9, .slice A10 p.f10.length c10] := by cases C0; simpa using e_
  clear e_
  refine (gatehouselaw13_twin.calls k A0 c0 p.f0 A1 c1 p.f1 A2 c2 p.f2 A3 c3 p.f3 A4 c4 p.f4 A5 c5 p.f5 A6 c6 p.f6 A7 c7 p.f7 A8 c8 p.f8 A9 c9 p.f9 A10 c10 p.f10 p.f0 p.f1 p.f2 p.f3 p.f4 p.f5 p.f6 p.f7 p.f8 p.f9 p.f10 w g0 l0 g1 l1 g2 l2 g3 l3 g4 l4 g5 l5 g6 l6 g7 l7 g8 l8 g9 l9 g10 l10 (hk2 k (Nat.le_refl _))).mono ?_
  rintro e w' ⟨v0, v1, v2, v3, v4, v5, v6, v7, v8, v9, v10, rfl, h0, h1, h2, h3, h4, h5, h6, h7, h8, h9, h10, hb⟩
  obtain ⟨X0, y0, rfl, m0, q0⟩ := Kd.R_reads h0
  obtain ⟨X1, y1, rfl, m1, q1⟩ := Kd.R_reads h1
  obtain ⟨X2, y2, rfl, m2, q2⟩ := Kd.R_reads h2
  obtain ⟨X3, y3, rfl, m3, q3⟩ := Kd.R_reads h3
  obtain ⟨X4, y4, rfl, m4, q4⟩ := Kd.R_reads h4
  obtain ⟨X5, y5, rfl, m5, q5⟩ := Kd.R_reads h5
  obtain ⟨X6, y6, rfl, m6, q6⟩ := Kd.R_reads h6
  obtain ⟨X7, y7, rfl, m7, q7⟩ := Kd.R_reads h7
  obtain ⟨X8, y8, rfl, m8, q8⟩ := Kd.R_reads h8
  obtain ⟨X9, y9, rfl, m9, q9⟩ := Kd.S_reads h9
  obtain ⟨X10, y10, rfl, m10, q10⟩ := Kd.R_reads h10
  exact ⟨_, rfl, k28_mk w' p m0 q0 m1 q1 m2 q2 m3 q3 m4 q4 m5 q5 m6 q6 m7 q7 m8 q8 m9 q9 m10 q10, hb⟩
def ann_ : ByteArray := ⟨#[97, 110, 110]⟩
def door_ : ByteArray := ⟨#[100, 111, 111, 114]⟩
def open_ : ByteArray := ⟨#[111, 112, 101, 110]⟩
def shut_ : ByteArray := ⟨#[115, 104, 117, 116]⟩
def smallP (a : ByteArray) : Pol := { f0 := [open_, shut_], f1 := [⟨ann_, 4607182418800017408⟩], f2 := [], f3 := [door_], f4 := [], f5 := [], f6 := [], f7 := [], f8 := [], f9 := [⟨false, ann_, door_, [a], 0, 0⟩], f10 := [] }
theorem small_k (a : ByteArray) (w : World) :
    Calls Try.prog 86 #[.string a] w fun e w' => ∃ C1 : Array Value, e = .returned (.agg C1) ∧ k28.K w' (smallP a) C1.toList ∧ Below w.heap.size w w' := by
  refine (gatehouselaw13_small.calls a (smallP a).f0 (smallP a).f1 (smallP a).f2 (smallP a).f3 (smallP a).f4 (smallP a).f5 (smallP a).f6 (smallP a).f7 (smallP a).f8 (smallP a).f9 (smallP a).f10 w rfl).mono ?_
  rintro e w' ⟨v0, v1, v2, v3, v4, v5, v6, v7, v8, v9, v10, rfl, h0, h1, h2, h3, h4, h5, h6, h7, h8, h9, h10, hb⟩
  obtain ⟨X0, y0, rfl, m0, q0⟩ := Kd.R_reads h0
  obtain ⟨X1, y1, rfl, m1, q1⟩ := Kd.R_reads h1
  obtain ⟨X2, y2, rfl, m2, q2⟩ := Kd.R_reads h2
  obtain ⟨X3, y3, rfl, m3, q3⟩ := Kd.R_reads h3
  obtain ⟨X4, y4, rfl, m4, q4⟩ := Kd.R_reads h4
  obtain ⟨X5, y5, rfl, m5, q5⟩ := Kd.R_reads h5
  obtain ⟨X6, y6, rfl, m6, q6⟩ := Kd.R_reads h6
  obtain ⟨X7, y7, rfl, m7, q7⟩ := Kd.R_reads h7
  obtain ⟨X8, y8, rfl, m8, q8⟩ := Kd.R_reads h8
  obtain ⟨X9, y9, rfl, m9, q9⟩ := Kd.N_reads h9
  obtain ⟨X10, y10, rfl, m10, q10⟩ := Kd.R_reads h10
  exact ⟨_, rfl, k28_mk w' (smallP a) m0 q0 m1 q1 m2 q2 m3 q3 m4 q4 m5 q5 m6 q6 m7 q7 m8 q8 m9 q9 m10 q10, hb⟩
theorem vast_l0 (l : List Pol) (hl : l.length ≤ 1048576) (hs : ∀ p ∈ l, Sz p) (d : Nat) : ∀ i : Nat, i ≤ l.length → l.length - i = d → ∃ b, Evt (fun k => gatehouselaw13_vast.l0 k l (i : Int)) b ∧ (b = false → ∀ p ∈ l.drop i, p.f1.length * (p.f3.length * p.f0.length) ≤ 65536) := by
  induction d with
  | zero =>
    intro i h1 hd
    refine ⟨false, Evt.now fun k => ?_, fun _ p hp => ?_⟩
    · simp only [gatehouselaw13_vast.l0]
      rw [if_neg (by omega)]
    · rw [List.drop_of_length_le (by omega)] at hp
      cases hp
  | succ d ih =>
    intro i h1 hd
    have hlt : i < l.length := by omega
    have hdr : l.drop i = l[i] :: l.drop (i + 1) := List.drop_eq_getElem_cons hlt
    have hr : rd_T28 l (i : Int) = l[i] := by simp [rd_T28, List.getD_eq_getElem?_getD, hlt]
    obtain ⟨p, hp⟩ : ∃ p, p = l[i] := ⟨_, rfl⟩
    have hz : Sz p := hp ▸ hs _ (List.getElem_mem hlt)
    obtain ⟨b, hb, hc⟩ := ih (i + 1) (by omega) (by omega)
    rw [← hp] at hr hdr
    by_cases q1 : (p.f1.length : Int) > 65536
    · exact ⟨true, Evt.now fun k => by simp only [gatehouselaw13_vast.l0]; rw [if_pos (by omega), if_pos (by omega), hr, if_pos q1], fun h => by cases h⟩
    by_cases q2 : (p.f3.length : Int) > 65536
    · exact ⟨true, Evt.now fun k => by simp only [gatehouselaw13_vast.l0]; rw [if_pos (by omega), if_pos (by omega), hr, if_neg q1, if_pos q2], fun h => by cases h⟩
    by_cases q3 : (p.f0.length : Int) > 65536
    · exact ⟨true, Evt.now fun k => by simp only [gatehouselaw13_vast.l0]; rw [if_pos (by omega), if_pos (by omega), hr, if_neg q1, if_neg q2, if_pos q3], fun h => by cases h⟩
    have hm : p.f1.length * p.f3.length ≤ 65536 * 65536 := Nat.mul_le_mul (by omega) (by omega)
    have e1 : wrap64 ((p.f1.length : Int) * (p.f3.length : Int)) = ((p.f1.length * p.f3.length : Nat) : Int) := by
      have : ((p.f1.length : Int) * (p.f3.length : Int)) = ((p.f1.length * p.f3.length : Nat) : Int) := by simp
      rw [this]
      unfold wrap64; omega
    by_cases q4 : ((p.f1.length * p.f3.length : Nat) : Int) > 65536
    · exact ⟨true, Evt.now fun k => by simp only [gatehouselaw13_vast.l0]; rw [if_pos (by omega), if_pos (by omega), hr, if_neg q1, if_neg q2, if_neg q3, e1, if_pos q4], fun h => by cases h⟩
    have hm2 : (p.f1.length * p.f3.length) * p.f0.length ≤ 65536 * 65536 := Nat.mul_le_mul (by omega) (by omega)
    have e2 : wrap64 (((p.f1.length * p.f3.length : Nat) : Int) * (p.f0.length : Int)) = (((p.f1.length * p.f3.length) * p.f0.length : Nat) : Int) := by
      have : (((p.f1.length * p.f3.length : Nat) : Int) * (p.f0.length : Int)) = (((p.f1.length * p.f3.length) * p.f0.length : Nat) : Int) := by simp
      rw [this]
      unfold wrap64; omega
    by_cases q5 : (((p.f1.length * p.f3.length) * p.f0.length : Nat) : Int) > 65536
    · exact ⟨true, Evt.now fun k => by simp only [gatehouselaw13_vast.l0]; rw [if_pos (by omega), if_pos (by omega), hr, if_neg q1, if_neg q2, if_neg q3, e1, if_neg q4, e2, if_pos q5], fun h => by cases h⟩
    have h9 : p.f1.length * (p.f3.length * p.f0.length) ≤ 65536 := by
      rw [← Nat.mul_assoc]
      generalize p.f1.length * p.f3.length * p.f0.length = X at q5 ⊢
      clear hm hm2 e1 e2 q4 q1 q2 q3 hr hdr hb hc
      omega
    refine ⟨b, hb.step fun k => ?_, fun h x hx => ?_⟩
    · simp only [gatehouselaw13_vast.l0]
      rw [if_pos (by omega), if_pos (by omega), hr, if_neg q1, if_neg q2, if_neg q3, e1, if_neg q4, e2, if_neg q5, w1 (by omega)]
    · rw [hdr] at hx
      rcases List.mem_cons.1 hx with rfl | hx
      · exact h9
      · exact hc h x hx
theorem vast_k (l : List Pol) (hl : l.length ≤ 1048576) (hs : ∀ p ∈ l, Sz p) : ∃ b, (b = false → ∀ p ∈ l, p.f1.length * (p.f3.length * p.f0.length) ≤ 65536) ∧ ∀ (A : Option Addr) (c : Nat) (w : World), Kd.C k28 w A l.length l → l.length ≤ c →
    Calls Try.prog 28 #[.slice A l.length c] w fun e w' => e = .returned (.bool b) ∧ Below w.heap.size w w' := by
  obtain ⟨b, ⟨k, hk⟩, hc⟩ := vast_l0 l hl hs l.length 0 (Nat.zero_le _) (by omega)
  refine ⟨b, fun h p hp => hc h p (by simpa using hp), fun A c w hC hle => (gatehouselaw13_vast.calls k A c l b w hC hle (hk k (Nat.le_refl _))).mono ?_⟩
  rintro e w' ⟨rfl, hd⟩
  exact ⟨rfl, hd.below⟩
def eqCh (x c : Chg) : Bool := ((x.f0.f0.toList == c.f0.f0.toList) && ((x.f0.f1.toList == c.f0.f1.toList) && (x.f0.f2.toList == c.f0.f2.toList))) && (x.f1 == c.f1)
theorem eqCh_iff {x c : Chg} : eqCh x c = true ↔ x = c := by
  unfold eqCh
  simp only [Bool.and_eq_true, beq_iff_eq, toList_iff]
  constructor
  · rintro ⟨⟨h1, h2, h3⟩, h4⟩
    cases x with | mk a b =>
    cases c with | mk a' b' =>
    cases a
    cases a'
    simp_all
  · rintro rfl
    exact ⟨⟨rfl, rfl, rfl⟩, rfl⟩
/-- How often a change stands in a list. -/
def toldN (l : List Chg) (c : Chg) : Nat := l.countP fun x => eqCh x c
theorem told_l0 (l : List Chg) (c : Chg) (hl : l.length ≤ 1048576) (d : Nat) : ∀ (i n : Nat), i ≤ l.length → l.length - i = d → n ≤ i → Evt (fun k => gatehouselaw13_told.l0 k l (n : Int) (i : Int) c.f0.f0 c.f0.f1 c.f0.f2 c.f1) ((n + toldN (l.drop i) c : Nat) : Int) := by
  induction d with
  | zero =>
    intro i n h1 hd hn
    refine Evt.now fun k => ?_
    simp only [gatehouselaw13_told.l0]
    rw [if_neg (by omega), List.drop_of_length_le (by omega)]
    rfl
  | succ d ih =>
    intro i n h1 hd hn
    have hlt : i < l.length := by omega
    have hdr : l.drop i = l[i] :: l.drop (i + 1) := List.drop_eq_getElem_cons hlt
    have hr : rd_T53 l (i : Int) = l[i] := by simp [rd_T53, List.getD_eq_getElem?_getD, hlt]
    rw [hdr]
    have ht : toldN (l[i] :: l.drop (i + 1)) c = toldN (l.drop (i + 1)) c + if eqCh l[i] c = true then 1 else 0 := by unfold toldN; rw [List.countP_cons]
    rw [ht]
    cases hq : eqCh l[i] c with
    | true =>
      have h := ih (i + 1) (n + 1) (by omega) (by omega) (by omega)
      rw [if_pos rfl, show n + (toldN (l.drop (i + 1)) c + 1) = n + 1 + toldN (l.drop (i + 1)) c by omega]
      refine h.step fun k => ?_
      unfold eqCh at hq
      simp only [gatehouselaw13_told.l0]
      rw [if_pos (by omega), if_pos (by omega), hr, if_pos hq, w1 (by omega), w1 (by omega)]
    | false =>
      have h := ih (i + 1) n (by omega) (by omega) (by omega)
      rw [if_neg (by decide), Nat.add_zero]
      refine h.step fun k => ?_
      unfold eqCh at hq
      simp only [gatehouselaw13_told.l0]
      rw [if_pos (by omega), if_pos (by omega), hr, if_neg (by rw [hq]; decide), w1 (by omega)]
theorem told_k (l : List Chg) (c : Chg) (A : Option Addr) (cp : Nat) (w : World) (hC : Kd.C k53 w A l.length l) (hc : l.length ≤ cp) (hl : l.length ≤ 1048576) :
    Calls Try.prog 40 #[.slice A l.length cp, .agg #[.string c.f0.f0, .string c.f0.f1, .string c.f0.f2, .bool c.f1]] w fun e w' => e = .returned (.int .i64 (toldN l c : Nat)) ∧ Below w.heap.size w w' := by
  obtain ⟨k, hk⟩ := told_l0 l c hl l.length 0 0 (Nat.zero_le _) (by omega) (Nat.le_refl _)
  have h := hk k (Nat.le_refl _)
  rw [List.drop_zero, Nat.zero_add] at h
  exact gatehouselaw13_told.calls k A cp l c.f0.f0 c.f0.f1 c.f0.f2 c.f1 _ w hC hc h
theorem has_l0 (l : List Tri) (t : Tri) (hl : l.length ≤ 1048576) (d : Nat) : ∀ i : Nat, i ≤ l.length → l.length - i = d → Evt (fun k => gatehouselaw13_has.l0 k l (i : Int) t.f0 t.f1 t.f2) (hasB (l.drop i) t) := by
  induction d with
  | zero =>
    intro i h1 hd
    refine Evt.now fun k => ?_
    simp only [gatehouselaw13_has.l0]
    rw [if_neg (by omega), List.drop_of_length_le (by omega)]
    rfl
  | succ d ih =>
    intro i h1 hd
    have hlt : i < l.length := by omega
    have hdr : l.drop i = l[i] :: l.drop (i + 1) := List.drop_eq_getElem_cons hlt
    have hc : (((l[i].f0.toList) == t.f0.toList && ((l[i].f1.toList == t.f1.toList) && (l[i].f2.toList == t.f2.toList)))) = eqT t l[i] := by
      unfold eqT
      rw [tb, tb, tb, Bool.and_assoc]
    cases hq : eqT t l[i] with
    | true =>
      refine Evt.now fun k => ?_
      simp only [gatehouselaw13_has.l0]
      rw [if_pos (by omega), if_pos (by omega), rdTri hlt, hc, hq, if_pos rfl, hdr]
      unfold hasB
      rw [List.any_cons, hq]
      rfl
    | false =>
      have hr : hasB (l.drop i) t = hasB (l.drop (i + 1)) t := by
        rw [hdr]
        unfold hasB
        rw [List.any_cons, hq]
        rfl
      rw [hr]
      refine (ih (i + 1) (by omega) (by omega)).step fun k => ?_
      simp only [gatehouselaw13_has.l0]
      rw [if_pos (by omega), if_pos (by omega), rdTri hlt, hc, hq, if_neg (by decide), w1 (by omega)]
theorem has_k (l : List Tri) (t : Tri) (A : Option Addr) (cp : Nat) (w : World) (hC : Kd.C k30 w A l.length l) (hc : l.length ≤ cp) (hl : l.length ≤ 1048576) :
    Calls Try.prog 44 #[.slice A l.length cp, .agg #[.string t.f0, .string t.f1, .string t.f2]] w fun e w' => e = .returned (.bool (hasB l t)) ∧ Below w.heap.size w w' := by
  obtain ⟨k, hk⟩ := has_l0 l t hl l.length 0 (Nat.zero_le _) (by omega)
  have h := hk k (Nat.le_refl _)
  rw [List.drop_zero] at h
  exact gatehouselaw13_has.calls k A cp l t.f0 t.f1 t.f2 _ w hC hc h
end Go.Proofs.Yteefneemmdfncaa.M
