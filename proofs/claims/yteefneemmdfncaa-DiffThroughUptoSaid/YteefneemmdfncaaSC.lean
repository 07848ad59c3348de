import Derived.Test.YteefneemmdfncaaSB
import Derived.Test.YteefneemmdfncaaF13
import Derived.Laws.BitsAllLaws
/- What mean.Relation asks for: sides in a list; about, of a policy that lies in an elder world; once; slices.IndexFunc. Conditions: each theorem's own.
mean.Relation, as plain functions; and what is in it. Conditions: each theorem's own.
mean.Relation, walked. Conditions: the policy reads as it must; its lists are not longer than 16777216, nor is the product of the three.
mean.Mask, walked. Conditions: the policy reads as it must; its lists are not longer than 16777216.
What sizes a policy may have, as a truth that is asked for. Conditions: none. -/
namespace Go.Proofs.Yteefneemmdfncaa.M
open Go.RowKit Go.Proofs.YteefneemmdfncaaW.Raw Go.Proofs.YteefneemmdfncaaW.PrintWords Go.Proofs.Yteefneemmdfncaa.F
set_option linter.unusedVariables false
attribute [local go_sem] run_store_float
structure Sd where
  n : ByteArray
  t : Nat
  us : List ByteArray
instance : Inhabited Sd := ⟨⟨ByteArray.empty, 0, []⟩⟩
def kSd : Kd Sd where
  sz := 3
  E := []
  K := fun w x cs => ∃ m, cs = [.string x.n, .float .f64 x.t, .map (some m)] ∧ SetOf w m x.us
  M := fun _ _ _ _ _ => False
  K_len := by
    rintro w x cs ⟨m, rfl, _⟩
    rfl
  K_one := by
    rintro w x cs ⟨m, rfl, _⟩ u hu
    simp only [List.mem_cons, List.not_mem_nil, or_false] at hu
    rcases hu with rfl | rfl | rfl <;> rfl
  K_below := by
    rintro w w1 x cs hb ⟨m, rfl, h⟩
    exact ⟨m, rfl, IsRaw.below h hb⟩
  K_of_M := fun h => h.elim
  M_mono := fun _ h => h
  M_bound := fun h => h.elim
  M_move := fun _ h => h
  M_lower := fun _ h => h
theorem kSd_FK {W : World} {x : Sd} {m : Nat} (h : SetOf W m x.us) : Kd.FK kSd W (fun k => k = m) x [.string x.n, .float .f64 x.t, .map (some m)] := fun W' hW => ⟨m, rfl, IsRaw.move h (hW m rfl h.lt)⟩
theorem at_Sd {w : World} {A : Option Addr} {n : Nat} {xs : List Sd} (h : Kd.C kSd w A n xs) (k : Nat) (hk : k < n) : ∃ ad m, A = some ad ∧ w.cell? (ad.add (k * 3)) = some (.string (xs.getD k default).n) ∧ w.cell? ⟨(ad.add (k * 3)).block, (ad.add (k * 3)).off + 1, none⟩ = some (.float .f64 (xs.getD k default).t) ∧ w.cell? ⟨(ad.add (k * 3)).block, (ad.add (k * 3)).off + 2, none⟩ = some (.map (some m)) ∧ SetOf w m (xs.getD k default).us := by
  obtain ⟨ad, c, e, _, ⟨m, rfl, hs⟩, hc0⟩ := Kd.C_get h default (k : Int) (by omega) (by omega)
  simp only [Int.toNat_natCast] at hc0 hs ⊢
  have hc : ∀ j u, [Value.string (xs.getD k default).n, Value.float .f64 (xs.getD k default).t, Value.map (some m)][j]? = some u → w.cell? (ad.add (k * 3 + j)) = some u := hc0
  exact ⟨ad, m, e, hc 0 _ rfl, by rw [← add_field _ _ 1 (by omega)]; exact hc 1 _ rfl, by rw [← add_field _ _ 2 (by omega)]; exact hc 2 _ rfl, hs⟩
theorem once_ev (l : List ByteArray) (hl : l.length ≤ 16777216) (d : Nat) : ∀ (k i : Nat), i ≤ l.length → l.length - i = d → d + l.length + 1 < k →
    mean_once.l0 k (addAll [] (l.take i)) l (l.length : Int) (i : Int) = some (addAll [] l) := by
  induction d with
  | zero =>
    intro k i h1 hd hk
    obtain ⟨k, rfl⟩ : ∃ m, k = m + 1 := ⟨k - 1, by omega⟩
    simp only [mean_once.l0]
    rw [if_neg (by omega), List.take_of_length_le (by omega)]
  | succ d ih =>
    intro k i h1 hd hk
    obtain ⟨k, rfl⟩ : ∃ m, k = m + 1 := ⟨k - 1, by omega⟩
    have hlt : i < l.length := by omega
    have hg : rdOf ByteArray.empty l (i : Int) = l[i] := by simp [rdOf, hlt]
    have hal : (addAll [] (l.take i)).length ≤ i := by
      have := addAll_len (l.take i) []
      rw [List.length_take] at this
      simp at this; omega
    have htk : l.take (i + 1) = l.take i ++ [l[i]] := by rw [List.take_succ_eq_append_getElem hlt]
    have hih := ih k (i + 1) (by omega) (by omega) (by omega)
    have hw : wrap64 ((i : Int) + 1) = ((i + 1 : Nat) : Int) := by unfold wrap64; omega
    have hcf : slices_Contains_string_string.f k (addAll [] (l.take i)) l[i] = some (memB (addAll [] (l.take i)) l[i]) := by
      exact at_rounds (slices_Contains_string_string.mono _ _) (k := (addAll [] (l.take i)).length + 1) (by omega) (contains_f _ _ (by omega))
    simp only [mean_once.l0]
    rw [if_pos (by omega), if_pos (by omega), if_pos (by omega), hg, hcf]
    simp only [Option.bind_some]
    rw [hw]
    cases hm : memB (addAll [] (l.take i)) l[i] with
    | true =>
      rw [if_pos rfl, ← hih, htk, addAll_snoc, add1_mem (memB_iff.1 hm)]
    | false =>
      rw [if_neg (by decide), if_pos (by omega), ← hih, htk, addAll_snoc, add1_new (fun e => by rw [memB_iff.2 e] at hm; exact absurd hm (by decide))]
theorem once_calls (l : List ByteArray) (A : Option Addr) (c : Nat) (w : World) (h : Kd.C Kd.string w A l.length l) (hc : l.length ≤ c) (hl : l.length ≤ 16777216) :
    Calls Try.prog 90 #[.slice A l.length c] w fun e w' => ∃ A' c', e = .returned (.slice A' (addAll [] l).length c') ∧ (addAll [] l).length ≤ c' ∧ Kd.C Kd.string w' A' (addAll [] l).length (addAll [] l) ∧ Below w.heap.size w w' := by
  have hf : mean_once.f (l.length + l.length + 2) l = some (addAll [] l) := once_ev l hl l.length (l.length + l.length + 2) 0 (Nat.zero_le _) (by omega) (by omega)
  refine (mean_once.calls _ A c l _ w h hc hf).mono ?_
  rintro e w' ⟨v, rfl, hR, hb⟩
  obtain ⟨A', c', rfl, h1, h2⟩ := Kd.R_reads hR
  exact ⟨A', c', rfl, h1, h2, hb⟩
set_option maxRecDepth 100000 in
theorem rel1_calls (y x : ByteArray) (ty tx b : Nat) (w : World) (hb : w.heap[b]? = some (.cells #[.string x, .float .f64 tx] 77 (0, 0))) :
    Calls Try.prog 88 #[.agg #[.string y, .float .f64 ty], .pointer (some ⟨b, 0, none⟩)] w fun e w' => e = .returned (.bool (y.toList == x.toList)) ∧ Below w.heap.size w w' := by
  have q := (heap_old w (Obj.cells #[Value.string y, Value.float .f64 ty] 77) (lt_of_get hb)).trans hb
  have q0 := (blk_cell q 0).trans (Eq.refl (some (Value.string x)))
  go_enter Try.func88, Try.ntmps88
  go_wp2_with fail
  go_ret
  exact ⟨rfl, (Below.refl _ _).alloc (Nat.le_refl _) _⟩
set_option maxRecDepth 100000 in
set_option maxHeartbeats 2000000 in
theorem index_calls (l : List Sub) (x : ByteArray) (tx b : Nat) (A : Option Addr) (c : Nat) (w : World) (h : Kd.C k77 w A l.length l) (hb : w.heap[b]? = some (.cells #[.string x, .float .f64 tx] 77 (0, 0))) :
    Calls Try.prog 87 #[.slice A l.length c, .func (.func 88) #[] #[.pointer (some ⟨b, 0, none⟩)]] w fun e w' => Below w.heap.size w w' ∧ ∃ i : Int, e = .returned (.int .i64 i) ∧
      ∀ k s, l[k]? = some s → s.f0 = x → (i = (k : Nat) ↔ ∀ j, j < k → ∀ s, l[j]? = some s → (x == s.f0) = false) := by
  have HR := Lib.hid h
  have HP := Lib.hid hb
  have hmx : l.length ≤ 9223372036854775807 := h.2.1
  clear h hb
  go_enter Try.func87, Try.ntmps87
  go_wp2_with fail
  go_loopw [8] (fun i wr => ∃ k : Nat, k ≤ l.length ∧ i = .int .i64 (k : Nat) ∧ Hid (∀ j, j < k → ∀ s, l[j]? = some s → (x == s.f0) = false) ∧ Below w.heap.size w wr) (fun i _ => l.length - (intOf i).toNat)
  case atStart => exact ⟨0, Nat.zero_le _, rfl, Lib.hid (fun j hj => absurd hj (Nat.not_lt_zero _)), Below.refl _ _⟩
  case round =>
    obtain ⟨k, hk, rfl, HN, hB⟩ := hrel
    by_cases hlt : k < l.length
    · obtain ⟨ad, rfl, e0, e1⟩ := at_T77 (Kd.C_below HR.out hB) (k : Int) (by omega) (by omega)
      obtain ⟨s, hs⟩ : ∃ s, s = rd_T77 l (k : Int) := ⟨_, rfl⟩
      rw [← hs, Int.toNat_natCast] at e0 e1
      have hks : l[k]? = some s := by rw [hs]; simp [rd_T77, List.getD_eq_getElem?_getD, hlt]
      have HKS := Lib.hid hks
      have HB := Lib.hid hB
      clear hs hks hB
      go_wp2_with fail
      refine (rel1_calls s.f0 x s.f1 tx b wr ((HB.out.block _ (lt_of_get HP.out)).trans HP.out)).mono ?_
      rintro e w2 ⟨rfl, hb2⟩
      have HB2 := Lib.hid (HB.out.trans (hb2.mono HB.out.size))
      clear hb2 e0 e1
      by_cases he : s.f0 = x
      · have hq := eqS_true he
        have HE := Lib.hid (show (x == s.f0) = true from (bb _ _).2 he.symm)
        clear he
        go_wp2
        go_ret
        refine ⟨HB2.out, k, rfl, fun k' s' hk' hs' => ⟨fun e => ?_, fun hq => ?_⟩⟩
        · have : k' = k := by omega
          subst this
          exact HN.out
        · by_cases h1 : k < k'
          · have := hq k h1 s HKS.out
            rw [HE.out] at this
            exact absurd this (by decide)
          · by_cases h2 : k' < k
            · have := HN.out k' h2 s' hk'
              rw [(bb _ _).2 hs'.symm] at this
              exact absurd this (by decide)
            · omega
      · have hq : (s.f0.toList == x.toList) = false := by
          cases hq : (s.f0.toList == x.toList) with
          | false => rfl
          | true => exact absurd ((toList_iff _ _).1 (beq_iff_eq.1 hq)) he
        have HE := Lib.hid (show (x == s.f0) = false from by
          cases hq : (x == s.f0) with
          | false => rfl
          | true => exact absurd ((bb _ _).1 hq).symm he)
        clear he
        go_wp2
        go_roundw
        case rel => exact ⟨k + 1, hlt, by go_num, Lib.hid (fun j hj s' hs' => by
            by_cases h1 : j < k
            · exact HN.out j h1 s' hs'
            · obtain rfl : j = k := by omega
              rw [HKS.out] at hs'
              injection hs' with hs'
              subst hs'
              exact HE.out), HB2.out⟩
        case measure => simp [intOf]; omega
    · obtain rfl : k = l.length := by omega
      go_wp2
      go_ret
      refine ⟨hB, -1, rfl, fun k' s' hk' hs' => ⟨fun e => by omega, fun hq => ?_⟩⟩
      have := HN.out k' (List.getElem?_eq_some_iff.1 hk').1 s' hk'
      rw [(bb _ _).2 hs'.symm] at this
      exact absurd this (by decide)
end Go.Proofs.Yteefneemmdfncaa.M
namespace Go.Proofs.Yteefneemmdfncaa.M
open Go.RowKit Go.Proofs.YteefneemmdfncaaW.Raw Go.Proofs.YteefneemmdfncaaW.PrintWords Go.Proofs.Yteefneemmdfncaa.F
set_option linter.unusedVariables false
def mkS (p : Pol) (n : ByteArray) : Sd := ⟨n, (trustOf p.f1 n).getD 0, upS p n⟩
def mkO (p : Pol) (n : ByteArray) : Sd := ⟨n, 0, upO p n⟩
def nmsS (l : List Sub) : List ByteArray := addAll [] (l.map (·.f0))
def whosL (p : Pol) : List Sd := (nmsS p.f1).map (mkS p)
def whatsL (p : Pol) : List Sd := (addAll [] p.f3).map (mkO p)
def actsL (p : Pol) : List ByteArray := addAll [] p.f0
def rowA (p : Pol) (s o : Sd) (xs : List ByteArray) : List Tri := (xs.filter fun a => allowB (aboutL p s.t s.us o.us) p.f10 ⟨s.n, o.n, a⟩).map fun a => ⟨s.n, o.n, a⟩
def rowO (p : Pol) (s : Sd) (os : List Sd) : List Tri := os.flatMap fun o => rowA p s o (actsL p)
def relL (p : Pol) : List Tri := (whosL p).flatMap fun s => rowO p s (whatsL p)
theorem nms_mem {l : List Sub} {x : ByteArray} : x ∈ nmsS l ↔ ∃ s ∈ l, s.f0 = x := by
  unfold nmsS
  rw [addAll_mem]
  simp
theorem trust_of_mem {l : List Sub} {x : ByteArray} (h : ∃ s ∈ l, s.f0 = x) : ∃ t, trustOf l x = some t := by
  obtain ⟨s, hs, rfl⟩ := h
  unfold trustOf
  cases hq : l.find? (fun s_1 => s.f0 == s_1.f0) with
  | none =>
    rw [List.find?_eq_none] at hq
    exact absurd ((bb _ _).2 rfl) (hq s hs)
  | some t => exact ⟨t.f1, rfl⟩
theorem nms_snoc (l : List Sub) (k : Nat) (s : Sub) (h : l[k]? = some s) : nmsS (l.take (k + 1)) = add1 (nmsS (l.take k)) s.f0 := by
  unfold nmsS
  rw [List.take_add_one, h, List.map_append]
  exact addAll_snoc _ _ _
theorem nms_new {l : List Sub} {k : Nat} {x : ByteArray} : x ∉ nmsS (l.take k) ↔ ∀ j, j < k → ∀ s, l[j]? = some s → (x == s.f0) = false := by
  rw [nms_mem]
  constructor
  · intro h j hj s hs
    cases hq : (x == s.f0) with
    | false => rfl
    | true =>
      refine absurd ⟨s, ?_, ((bb _ _).1 hq).symm⟩ h
      rw [List.mem_take_iff_getElem]
      obtain ⟨h1, h2⟩ := List.getElem?_eq_some_iff.1 hs
      exact ⟨j, by omega, h2⟩
  · rintro h ⟨s, hs, rfl⟩
    rw [List.mem_take_iff_getElem] at hs
    obtain ⟨j, hj, he⟩ := hs
    have := h j (by omega) s (by rw [List.getElem?_eq_getElem (by omega), he])
    rw [(bb _ _).2 rfl] at this
    exact absurd this (by decide)
theorem nms_len (l : List Sub) : (nmsS l).length ≤ l.length := by
  have := addAll_len (l.map (·.f0)) []
  simpa [nmsS] using this
theorem rowA_len (p : Pol) (s o : Sd) (xs : List ByteArray) : (rowA p s o xs).length ≤ xs.length := by
  unfold rowA
  rw [List.length_map]
  exact List.length_filter_le _ _
theorem flat_len {α β : Type} (f : α → List β) (b : Nat) (l : List α) (h : ∀ x ∈ l, (f x).length ≤ b) : (l.flatMap f).length ≤ l.length * b := by
  induction l with
  | nil => simp
  | cons x l ih =>
    rw [List.flatMap_cons, List.length_append, List.length_cons, Nat.succ_mul]
    have := h x List.mem_cons_self
    have := ih (fun y hy => h y (List.mem_cons_of_mem _ hy))
    omega
theorem rowO_len (p : Pol) (s : Sd) (os : List Sd) : (rowO p s os).length ≤ os.length * (actsL p).length := flat_len _ _ _ fun o _ => rowA_len p s o _
/-- What has come till now is no more than all there can be. -/
theorem rel_len (p : Pol) (k1 k2 k3 : Nat) (s o : Sd) (h1 : k1 < (whosL p).length) (h2 : k2 < (whatsL p).length) (h3 : k3 < (actsL p).length) (hc : p.f1.length * (p.f3.length * p.f0.length) ≤ 16777216) :
    (((whosL p).take k1).flatMap (fun s => rowO p s (whatsL p)) ++ rowO p s ((whatsL p).take k2) ++ rowA p s o ((actsL p).take k3)).length < 16777216 := by
  have e1 : (((whosL p).take k1).flatMap (fun s => rowO p s (whatsL p))).length ≤ k1 * ((whatsL p).length * (actsL p).length) := by
    refine Nat.le_trans (flat_len _ _ _ fun s _ => rowO_len p s _) ?_
    rw [List.length_take]
    exact Nat.mul_le_mul_right _ (Nat.min_le_left _ _)
  have e2 : (rowO p s ((whatsL p).take k2)).length ≤ k2 * (actsL p).length := by
    refine Nat.le_trans (rowO_len p s _) ?_
    rw [List.length_take]
    exact Nat.mul_le_mul_right _ (Nat.min_le_left _ _)
  have e3 : (rowA p s o ((actsL p).take k3)).length ≤ k3 := by
    refine Nat.le_trans (rowA_len _ _ _ _) ?_
    rw [List.length_take]
    omega
  have l1 : (whosL p).length ≤ p.f1.length := by unfold whosL; rw [List.length_map]; exact nms_len _
  have l2 : (whatsL p).length ≤ p.f3.length := by
    unfold whatsL
    rw [List.length_map]
    simpa using addAll_len p.f3 []
  have l3 : (actsL p).length ≤ p.f0.length := by simpa [actsL] using addAll_len p.f0 []
  rw [List.length_append, List.length_append]
  obtain ⟨B, hB⟩ : ∃ B, B = (whatsL p).length := ⟨_, rfl⟩
  obtain ⟨C, hC⟩ : ∃ C, C = (actsL p).length := ⟨_, rfl⟩
  rw [← hB] at e1 h2 l2
  rw [← hC] at e1 e2 h3 l3
  have m1 : (k1 + 1) * (B * C) ≤ p.f1.length * (p.f3.length * p.f0.length) := Nat.mul_le_mul (by omega) (Nat.mul_le_mul l2 l3)
  have m2 : (k2 + 1) * C ≤ B * C := Nat.mul_le_mul_right _ (by omega)
  rw [Nat.succ_mul] at m1 m2
  omega
theorem rowA_snoc (p : Pol) (s o : Sd) (xs : List ByteArray) (a : ByteArray) : rowA p s o (xs ++ [a]) = rowA p s o xs ++ if allowB (aboutL p s.t s.us o.us) p.f10 ⟨s.n, o.n, a⟩ = true then [⟨s.n, o.n, a⟩] else [] := by
  unfold rowA
  rw [List.filter_append, List.map_append]
  congr 1
  cases hq : allowB (aboutL p s.t s.us o.us) p.f10 ⟨s.n, o.n, a⟩ <;> simp [hq]
theorem rowO_snoc (p : Pol) (s o : Sd) (os : List Sd) : rowO p s (os ++ [o]) = rowO p s os ++ rowA p s o (actsL p) := by simp [rowO]
end Go.Proofs.Yteefneemmdfncaa.M
namespace Go.Proofs.Yteefneemmdfncaa.M
open Go.RowKit Go.Proofs.YteefneemmdfncaaW.Raw Go.Proofs.YteefneemmdfncaaW.PrintWords Go.Proofs.Yteefneemmdfncaa.F
set_option linter.unusedVariables false
attribute [local go_sem] run_store_float
theorem infoSd : (Try.prog.info? 112).map (fun i => (i.zero, i.size, i.bytes)) = some (some (.agg #[.string ⟨#[]⟩, .float .f64 0, .map none]), 3, 32) := by kernel_rfl
theorem infoTri : (Try.prog.info? 30).map (fun i => (i.zero, i.size, i.bytes)) = some (some (.agg #[.string ⟨#[]⟩, .string ⟨#[]⟩, .string ⟨#[]⟩]), 3, 48) := by kernel_rfl
theorem kTri_FK (W : World) (t : Tri) : Kd.FK k30 W (fun _ => False) t [.string t.f0, .string t.f1, .string t.f2] := fun W' hW => ⟨[.string t.f0], [.string t.f1, .string t.f2], rfl, rfl, [.string t.f1], [.string t.f2], rfl, rfl, rfl⟩
set_option maxRecDepth 100000 in
set_option maxHeartbeats 8000000 in
theorem relation_calls (p : Pol) (c : Array Value) (w : World) (hk : k28.K w p c.toList) (hn : OkP p) (hcap : p.f1.length * (p.f3.length * p.f0.length) ≤ 16777216) :
    Calls Try.prog 43 #[.agg c] w fun e w' => ∃ v, e = .returned v ∧ Kd.N k30 30 w' w.heap.size (fun _ => True) v (relL p) ∧ Below w.heap.size w w' := by
  have HK0 := Lib.hid hk
  have HN := Lib.hid hn
  have HCAP := Lib.hid hcap
  obtain ⟨A0, c0, A1, c1, A2, c2, A3, c3, A4, c4, A5, c5, A6, c6, A7, c7, A8, c8, A9, c9, A10, c10, e_, l0, g0, l1, g1, l2, g2, l3, g3, l4, g4, l5, g5, l6, g6, l7, g7, l8, g8, l9, g9, l10, g10⟩ := k28_open hk
  obtain rfl : c = #[.slice A0 p.f0.length c0, .slice A1 p.f1.length c1, .slice A2 p.f2.length c2, .slice A3 p.f3.length c3, .slice A4 p.f4.length c4, .slice A5 p.f5.length c5, .slice A6 p.f6.length c6, .slice A7 p.f7.length c7, .slice A8 p.f8.length c8, .slice A9 p.f9.length c9, .slice A10 p.f10.length c10] := by cases c; simpa using e_
  clear e_
  have H0 := Lib.hid g0
  have H1 := Lib.hid g1
  have H3 := Lib.hid g3
  have L0 := Lib.hid l0
  have L3 := Lib.hid l3
  have hu1 : p.f1.length ≤ 16777216 := hn.u
  clear hk hn hcap g0 g1 g2 g3 g4 g5 g6 g7 g8 g9 g10 l0 l1 l2 l3 l4 l5 l6 l7 l8 l9 l10
  obtain ⟨W1, hW1⟩ : ∃ W1, W1 = w.alloc (Obj.cells #[Value.slice A0 p.f0.length c0, Value.slice A1 p.f1.length c1, Value.slice A2 p.f2.length c2, Value.slice A3 p.f3.length c3, Value.slice A4 p.f4.length c4, Value.slice A5 p.f5.length c5, Value.slice A6 p.f6.length c6, Value.slice A7 p.f7.length c7, Value.slice A8 p.f8.length c8, Value.slice A9 p.f9.length c9, Value.slice A10 p.f10.length c10] 28) := ⟨_, rfl⟩
  have hp : W1.heap[w.heap.size]? = some (.cells #[Value.slice A0 p.f0.length c0, Value.slice A1 p.f1.length c1, Value.slice A2 p.f2.length c2, Value.slice A3 p.f3.length c3, Value.slice A4 p.f4.length c4, Value.slice A5 p.f5.length c5, Value.slice A6 p.f6.length c6, Value.slice A7 p.f7.length c7, Value.slice A8 p.f8.length c8, Value.slice A9 p.f9.length c9, Value.slice A10 p.f10.length c10] 28 (0, 0)) := by rw [hW1]; exact heap_new _ _
  have hb : Below w.heap.size w W1 := by rw [hW1]; exact (Below.refl _ w).alloc (Nat.le_refl _) _
  have HP := Lib.hid hp
  have HB := Lib.hid hb
  go_enter Try.func43, Try.ntmps43
  go_wp2_with fail
  rw [← hW1]
  clear hW1 hp hb
  obtain ⟨F, hF⟩ : ∃ F : Nat → List Sd, F = fun k => (nmsS (p.f1.take k)).map (mkS p) := ⟨_, rfl⟩
  have HF := Lib.hid hF
  clear hF
  go_loopw [3, 26] (fun v i wr => ∃ (k : Nat) (A' : Option Addr) (c' : Nat), k ≤ p.f1.length ∧ i = .int .i64 (k : Nat) ∧ v = .slice A' (F k).length c' ∧ Kd.N kSd 112 wr W1.heap.size (fun _ => True) (.slice A' (F k).length c') (F k) ∧ Below W1.heap.size W1 wr) (fun _ i _ => p.f1.length - (intOf i).toNat)
  case atStart =>
    have h0 : F 0 = [] := by rw [HF.out]; rfl
    exact ⟨0, none, 0, Nat.zero_le _, rfl, by rw [h0]; rfl, by rw [h0]; exact Kd.N_nil _ _ _ _ _, Below.refl _ _⟩
  case round =>
    obtain ⟨k, A', c', hk, rfl, rfl, hN, hB⟩ := hrel
    obtain ⟨nf, hnf⟩ : ∃ nf, nf = (F k).length := ⟨_, rfl⟩
    rw [← hnf] at hN ⊢
    have hfl : nf ≤ k := by
      rw [hnf, HF.out]
      show ((nmsS (p.f1.take k)).map (mkS p)).length ≤ k
      rw [List.length_map]
      exact Nat.le_trans (nms_len _) (by rw [List.length_take]; omega)
    have hp := (hB.block _ (lt_of_get HP.out)).trans HP.out
    have HPR := Lib.hid hp
    have HBW := Lib.hid (HB.out.trans (hB.mono HB.out.size))
    by_cases hlt : k < p.f1.length
    · obtain ⟨ad, rfl, e0, e1⟩ := at_T77 (Kd.C_below H1.out HBW.out) (k : Int) (by omega) (by omega)
      obtain ⟨s, hs⟩ : ∃ s, s = rd_T77 p.f1 (k : Int) := ⟨_, rfl⟩
      rw [← hs, Int.toNat_natCast] at e0 e1
      have hks : p.f1[k]? = some s := by rw [hs]; simp [rd_T77, List.getD_eq_getElem?_getD, hlt]
      have HKS := Lib.hid hks
      have HN1 := Lib.hid hN
      have HB1 := Lib.hid hB
      have HNF := Lib.hid hnf
      obtain ⟨W2, hW2⟩ : ∃ W2, W2 = wr.alloc (Obj.cells #[Value.string s.f0, Value.float .f64 s.f1] 77) := ⟨_, rfl⟩
      have hb2 : Below wr.heap.size wr W2 := by rw [hW2]; exact (Below.refl _ _).alloc (Nat.le_refl _) _
      have hs2 : W2.heap[wr.heap.size]? = some (.cells #[Value.string s.f0, Value.float .f64 s.f1] 77 (0, 0)) := by rw [hW2]; exact heap_new _ _
      have hp2 := (hb2.block _ (lt_of_get hp)).trans hp
      have q1 := (blk_cell hp2 1).trans (Eq.refl (some (Value.slice (some ad) p.f1.length c1)))
      have HB2 := Lib.hid hb2
      have HS2 := Lib.hid hs2
      have HBW2 := Lib.hid (HBW.out.trans (hb2.mono HBW.out.size))
      rw [hW2] at q1
      clear hs hks hN hB hnf hb2 hs2 hp2 hp
      go_wp2_with fail
      rw [← hW2]
      clear hW2 q1
      refine (index_calls p.f1 s.f0 s.f1 wr.heap.size (some ad) c1 W2 (Kd.C_below H1.out HBW2.out) HS2.out).mono ?_
      rintro e W3 ⟨hb3, ix, rfl, hix⟩
      have hix := hix k s HKS.out rfl
      have HPR3 := Lib.hid ((hb3.block _ (Nat.lt_of_lt_of_le (lt_of_get HPR.out) HB2.out.size)).trans ((HB2.out.block _ (lt_of_get HPR.out)).trans HPR.out))
      have HS3 := Lib.hid ((hb3.block _ (lt_of_get HS2.out)).trans HS2.out)
      have HB3 := Lib.hid (HB2.out.trans (hb3.mono HB2.out.size))
      have HBW3 := Lib.hid (HBW2.out.trans (hb3.mono HBW2.out.size))
      clear hb3
      by_cases hnew : s.f0 ∈ nmsS (p.f1.take k)
      · have hne : ¬ ix = (k : Int) := fun e => (nms_new.2 (hix.1 e)) hnew
        have HNE := Lib.hid hnew
        clear hix hnew
        go_wp2_with fail
        go_roundw
        case rel =>
          have e1 : F (k + 1) = F k := by
            rw [HF.out]
            show (nmsS _).map _ = _
            rw [nms_snoc _ _ _ HKS.out, add1_mem HNE.out]
          exact ⟨k + 1, A', c', hlt, by go_num, by rw [e1, ← HNF.out], by rw [e1, ← HNF.out]; exact Kd.N_below HN1.out HB3.out, HB1.out.trans (HB3.out.mono HB1.out.size)⟩
        case measure => simp [intOf]; omega
      · have heq : ix = (k : Int) := hix.2 (nms_new.1 hnew)
        subst heq
        have HNE := Lib.hid hnew
        clear hix hnew
        have q0 := (blk_cell HPR3.out 0).trans (Eq.refl (some (Value.slice A0 p.f0.length c0)))
        have q1 := (blk_cell HPR3.out 1).trans (Eq.refl (some (Value.slice (some ad) p.f1.length c1)))
        have q2 := (blk_cell HPR3.out 2).trans (Eq.refl (some (Value.slice A2 p.f2.length c2)))
        have q3 := (blk_cell HPR3.out 3).trans (Eq.refl (some (Value.slice A3 p.f3.length c3)))
        have q4 := (blk_cell HPR3.out 4).trans (Eq.refl (some (Value.slice A4 p.f4.length c4)))
        have q5 := (blk_cell HPR3.out 5).trans (Eq.refl (some (Value.slice A5 p.f5.length c5)))
        have q6 := (blk_cell HPR3.out 6).trans (Eq.refl (some (Value.slice A6 p.f6.length c6)))
        have q7 := (blk_cell HPR3.out 7).trans (Eq.refl (some (Value.slice A7 p.f7.length c7)))
        have q8 := (blk_cell HPR3.out 8).trans (Eq.refl (some (Value.slice A8 p.f8.length c8)))
        have q9 := (blk_cell HPR3.out 9).trans (Eq.refl (some (Value.slice A9 p.f9.length c9)))
        have q10 := (blk_cell HPR3.out 10).trans (Eq.refl (some (Value.slice A10 p.f10.length c10)))
        have s0 := (blk_cell HS3.out 0).trans (Eq.refl (some (Value.string s.f0)))
        go_wp2_with fail
        clear q0 q1 q2 q3 q4 q5 q6 q7 q8 q9 q10 s0
        refine (subject_calls p _ s.f0 W3 (k28.K_below HBW3.out HK0.out) HN.out.s).mono ?_
        rintro e W4 ⟨hb4, h⟩
        obtain ⟨tr, m, htr, rfl, hset, hm⟩ : ∃ tr m, trustOf p.f1 s.f0 = some tr ∧ e = .returned (.tuple #[sideV s.f0 tr m, .bool true]) ∧ SetOf W4 m (upS p s.f0) ∧ W3.heap.size ≤ m := by
          rcases h with ⟨h, _⟩ | h
          · obtain ⟨t, ht⟩ := trust_of_mem ⟨s, List.mem_of_getElem? HKS.out, rfl⟩
            rw [ht] at h; cases h
          · exact h
        clear h
        have HB4 := Lib.hid (HB3.out.trans (hb4.mono HB3.out.size))
        have HMK := Lib.hid (show mkS p s.f0 = ⟨s.f0, tr, upS p s.f0⟩ from by unfold mkS; rw [htr]; rfl)
        have HSET := Lib.hid hset
        have HM := Lib.hid hm
        clear htr hset hb4 hm
        obtain ⟨W5, hW5⟩ : ∃ W5, W5 = W4.alloc (Obj.cells #[Value.string s.f0, Value.float .f64 tr, Value.map (some m)] 112) := ⟨_, rfl⟩
        have hb5 : Below W4.heap.size W4 W5 := by rw [hW5]; exact (Below.refl _ _).alloc (Nat.le_refl _) _
        have HB5 := Lib.hid (HB4.out.trans (hb5.mono HB4.out.size))
        have HS5 := Lib.hid (IsRaw.below HSET.out hb5 : SetOf W5 m (upS p s.f0))
        clear hb5
        have hml : m < W4.heap.size := HSET.out.lt
        go_wp2_with ((with_reducible refine gate_builtin (b := .append) (xs := #[.tmp 44, .tmp 46]) rfl ?_); at_builtin; go_must (rw [← hW5]); go_must (refine Kd.N_append kSd (w0 := W1) W1.heap.size rfl (.tmp 44) (.tmp 46) 107 112 (.agg #[.string ⟨#[]⟩, .float .f64 0, .map none]) 32 rfl Try.underlying107 infoSd rfl (by decide) (by omega) (.slice A' nf c') (F k) ⟨s.f0, tr, upS p s.f0⟩ [.string s.f0, .float .f64 tr, .map (some m)] (fun _ => True) (fun j => j = m) rfl ?hx ?hp ?hok (fun _ _ => trivial) (Kd.N_below HN1.out HB5.out) (HB1.out.trans (HB5.out.mono HB1.out.size)) (Nat.le_trans HB1.out.size HB5.out.size) (by rw [← HNF.out]; omega) ?_); go_must (case hx => rw [show W5.heap.size = W4.heap.size + 1 from by rw [hW5]; exact size_new _ _]; rfl); go_must (case hp => exact kSd_FK HS5.out); go_must (case hok => exact fun j hj => ⟨trivial, fun e => by have := Kd.N_lt HN1.out j e.symm; have := HM.out; have := HB3.out.size; omega⟩); go_must (intro v1 w4 hN1 hb4 hg4 hat4; obtain ⟨A5, c5', hv⟩ := Kd.N_slice hN1; subst hv); have HN2 := Lib.hid hN1; have HB6 := Lib.hid hb4; clear hN1 hb4 hg4 hat4)
        go_roundw
        case rel =>
          have e1 : F (k + 1) = F k ++ [⟨s.f0, tr, upS p s.f0⟩] := by
            rw [HF.out]
            show (nmsS _).map _ = _
            rw [nms_snoc _ _ _ HKS.out, add1_new HNE.out, List.map_append, ← HMK.out]
            rfl
          exact ⟨k + 1, A5, c5', hlt, by go_num, by rw [e1, List.length_append]; rfl, by rw [e1]; exact HN2.out, HB6.out⟩
        case measure => simp [intOf]; omega
    · obtain rfl : k = p.f1.length := by omega
      obtain ⟨WA, rfl⟩ : ∃ x, x = wr := ⟨wr, rfl⟩
      have hFw : F p.f1.length = whosL p := by
        rw [HF.out]
        show (nmsS (p.f1.take p.f1.length)).map _ = _
        rw [List.take_length]
        rfl
      rw [hFw] at hN hnf
      obtain ⟨-, hwc, hwC⟩ := Kd.N_reads' hN
      have HWC := Lib.hid hwC
      have HNF := Lib.hid hnf
      have q3 := (blk_cell hp 3).trans (Eq.refl (some (Value.slice A3 p.f3.length c3)))
      clear hN hnf hB hwC hFw hp HF hfl hlt
      go_wp2_with fail
      clear q3
      refine (once_calls p.f3 A3 c3 WA (Kd.C_below H3.out HBW.out) L3.out HN.out.b).mono ?_
      rintro e WB ⟨Ao, co, rfl, hco, hCo, hbB⟩
      obtain ⟨os, hos⟩ : ∃ os, os = addAll [] p.f3 := ⟨_, rfl⟩
      rw [← hos] at hCo hco ⊢
      have hol : os.length ≤ 16777216 := by
        have := addAll_len p.f3 []
        have := HN.out.b
        rw [hos]
        simp at *
        omega
      have HOS := Lib.hid hos
      have HCO := Lib.hid hCo
      have HPB := Lib.hid ((hbB.block _ (lt_of_get HPR.out)).trans HPR.out)
      have HBB := Lib.hid (HBW.out.trans (hbB.mono HBW.out.size))
      have HWB := Lib.hid (Kd.C_below HWC.out hbB)
      clear hos hCo hbB
      go_wp2_with fail
      obtain ⟨F2, hF2⟩ : ∃ F2 : Nat → List Sd, F2 = fun k => (os.take k).map (mkO p) := ⟨_, rfl⟩
      have HF2 := Lib.hid hF2
      clear hF2
      go_loopw [4, 53] (fun v i wr => ∃ (k : Nat) (A' : Option Addr) (c' : Nat), k ≤ os.length ∧ i = .int .i64 (k : Nat) ∧ v = .slice A' (F2 k).length c' ∧ Kd.N kSd 112 wr WB.heap.size (fun _ => True) (.slice A' (F2 k).length c') (F2 k) ∧ Below WB.heap.size WB wr) (fun _ i _ => os.length - (intOf i).toNat)
      case atStart =>
        have h0 : F2 0 = [] := by rw [HF2.out]; rfl
        exact ⟨0, none, 0, Nat.zero_le _, rfl, by rw [h0]; rfl, by rw [h0]; exact Kd.N_nil _ _ _ _ _, Below.refl _ _⟩
      case round =>
        obtain ⟨k, A2', c2', hk, rfl, rfl, hN2, hB2⟩ := hrel
        obtain ⟨n2, hn2⟩ : ∃ n2, n2 = (F2 k).length := ⟨_, rfl⟩
        rw [← hn2] at hN2 ⊢
        have hfl2 : n2 ≤ k := by
          rw [hn2, HF2.out]
          show ((os.take k).map (mkO p)).length ≤ k
          rw [List.length_map, List.length_take]
          omega
        have hp2 := (hB2.block _ (lt_of_get HPB.out)).trans HPB.out
        have HPR2 := Lib.hid hp2
        have HBW2 := Lib.hid (HBB.out.trans (hB2.mono HBB.out.size))
        by_cases hlt : k < os.length
        · obtain ⟨ad, rfl, e0⟩ := str_at (Kd.C_below HCO.out hB2) k hlt
          obtain ⟨x, hx⟩ : ∃ x, x = os.getD k ByteArray.empty := ⟨_, rfl⟩
          rw [← hx] at e0
          have hkx : os[k]? = some x := by rw [hx, List.getD_eq_getElem?_getD, List.getElem?_eq_getElem hlt]; rfl
          have hmx : memB p.f3 x = true := memB_iff.2 (by
            have h := List.mem_of_getElem? hkx
            rw [HOS.out, addAll_mem] at h
            simpa using h)
          have HKX := Lib.hid hkx
          have HMX := Lib.hid hmx
          have HN2 := Lib.hid hN2
          have HB2 := Lib.hid hB2
          have HNF2 := Lib.hid hn2
          clear hx hkx hmx hN2 hB2 hn2 hp2
          have q0 := (blk_cell HPR2.out 0).trans (Eq.refl (some (Value.slice A0 p.f0.length c0)))
          have q1 := (blk_cell HPR2.out 1).trans (Eq.refl (some (Value.slice A1 p.f1.length c1)))
          have q2 := (blk_cell HPR2.out 2).trans (Eq.refl (some (Value.slice A2 p.f2.length c2)))
          have q3 := (blk_cell HPR2.out 3).trans (Eq.refl (some (Value.slice A3 p.f3.length c3)))
          have q4 := (blk_cell HPR2.out 4).trans (Eq.refl (some (Value.slice A4 p.f4.length c4)))
          have q5 := (blk_cell HPR2.out 5).trans (Eq.refl (some (Value.slice A5 p.f5.length c5)))
          have q6 := (blk_cell HPR2.out 6).trans (Eq.refl (some (Value.slice A6 p.f6.length c6)))
          have q7 := (blk_cell HPR2.out 7).trans (Eq.refl (some (Value.slice A7 p.f7.length c7)))
          have q8 := (blk_cell HPR2.out 8).trans (Eq.refl (some (Value.slice A8 p.f8.length c8)))
          have q9 := (blk_cell HPR2.out 9).trans (Eq.refl (some (Value.slice A9 p.f9.length c9)))
          have q10 := (blk_cell HPR2.out 10).trans (Eq.refl (some (Value.slice A10 p.f10.length c10)))
          go_wp2_with fail
          clear q0 q1 q2 q3 q4 q5 q6 q7 q8 q9 q10 e0
          refine (object_calls p _ x wr (k28.K_below HBW2.out HK0.out) HN.out.o).mono ?_
          rintro e W4 ⟨hb4, h⟩
          obtain ⟨m, rfl, hset, hm⟩ : ∃ m, e = .returned (.tuple #[sideV x 0 m, .bool true]) ∧ SetOf W4 m (upO p x) ∧ wr.heap.size ≤ m := by
            rcases h with ⟨h, _⟩ | ⟨m, _, h⟩
            · rw [HMX.out] at h; cases h
            · exact ⟨m, h⟩
          clear h
          have HB4 := Lib.hid hb4
          have HSET := Lib.hid hset
          have HM := Lib.hid hm
          clear hset hb4 hm
          obtain ⟨W5, hW5⟩ : ∃ W5, W5 = W4.alloc (Obj.cells #[Value.string x, Value.float .f64 0, Value.map (some m)] 112) := ⟨_, rfl⟩
          have hb5 : Below W4.heap.size W4 W5 := by rw [hW5]; exact (Below.refl _ _).alloc (Nat.le_refl _) _
          have HB5 := Lib.hid (HB4.out.trans (hb5.mono HB4.out.size))
          have HS5 := Lib.hid (IsRaw.below HSET.out hb5 : SetOf W5 m (upO p x))
          clear hb5
          go_wp2_with ((with_reducible refine gate_builtin (b := .append) (xs := #[.tmp 63, .tmp 65]) rfl ?_); at_builtin; go_must (rw [← hW5]); go_must (refine Kd.N_append kSd (w0 := WB) WB.heap.size rfl (.tmp 63) (.tmp 65) 107 112 (.agg #[.string ⟨#[]⟩, .float .f64 0, .map none]) 32 rfl Try.underlying107 infoSd rfl (by decide) (by omega) (.slice A2' n2 c2') (F2 k) (mkO p x) [.string x, .float .f64 0, .map (some m)] (fun _ => True) (fun j => j = m) rfl ?hx ?hp ?hok (fun _ _ => trivial) (Kd.N_below HN2.out HB5.out) (HB2.out.trans (HB5.out.mono HB2.out.size)) (Nat.le_trans HB2.out.size HB5.out.size) (by rw [← HNF2.out]; omega) ?_); go_must (case hx => rw [show W5.heap.size = W4.heap.size + 1 from by rw [hW5]; exact size_new _ _]; rfl); go_must (case hp => exact kSd_FK (x := mkO p x) HS5.out); go_must (case hok => exact fun j hj => ⟨trivial, fun e => by have := Kd.N_lt HN2.out j e.symm; have := HM.out; omega⟩); go_must (intro v1 w4 hN1 hb4 hg4 hat4; obtain ⟨A5, c5', hv⟩ := Kd.N_slice hN1; subst hv); have HN3 := Lib.hid hN1; have HB6 := Lib.hid hb4; clear hN1 hb4 hg4 hat4)
          go_roundw
          case rel =>
            have e1 : F2 (k + 1) = F2 k ++ [mkO p x] := by
              rw [HF2.out]
              show (os.take (k + 1)).map _ = _
              rw [List.take_add_one, HKX.out, List.map_append]
              rfl
            exact ⟨k + 1, A5, c5', hlt, by go_num, by rw [e1, List.length_append]; rfl, by rw [e1]; exact HN3.out, HB6.out⟩
          case measure => simp [intOf]; omega
        · obtain rfl : k = os.length := by omega
          obtain ⟨WC, rfl⟩ : ∃ x, x = wr := ⟨wr, rfl⟩
          have hFo : F2 os.length = whatsL p := by
            rw [HF2.out]
            show (os.take os.length).map _ = _
            rw [List.take_length, HOS.out]
            rfl
          rw [hFo] at hN2 hn2
          obtain ⟨-, hoc, hoC⟩ := Kd.N_reads' hN2
          have HOC := Lib.hid hoC
          have HNF2 := Lib.hid hn2
          have HWC2 := Lib.hid (Kd.C_below HWB.out hB2)
          have q0 := (blk_cell hp2 0).trans (Eq.refl (some (Value.slice A0 p.f0.length c0)))
          clear hN2 hn2 hB2 hoC hFo hp2 HF2 hfl2 hlt
          go_wp2_with fail
          clear q0
          refine (once_calls p.f0 A0 c0 WC (Kd.C_below H0.out HBW2.out) L0.out HN.out.a).mono ?_
          rintro e WD ⟨Aa, ca, rfl, hca, hCa, hbD⟩
          change Kd.C Kd.string WD Aa (actsL p).length (actsL p) at hCa
          change (actsL p).length ≤ ca at hca
          have hal : (actsL p).length ≤ 16777216 := by
            have := addAll_len p.f0 []
            have := HN.out.a
            unfold actsL
            simp at *
            omega
          have HCA := Lib.hid hCa
          have HPD := Lib.hid ((hbD.block _ (lt_of_get HPR2.out)).trans HPR2.out)
          have HBD := Lib.hid (HBW2.out.trans (hbD.mono HBW2.out.size))
          have HWD := Lib.hid (Kd.C_below HWC2.out hbD)
          have HOD := Lib.hid (Kd.C_below HOC.out hbD)
          clear hCa hbD
          have hFA : Value.slice Aa (addAll [] p.f0).length ca = Value.slice Aa (actsL p).length ca := rfl
          rw [hFA]
          clear hFA
          obtain ⟨na, hna⟩ : ∃ na, na = (actsL p).length := ⟨_, rfl⟩
          have HNA := Lib.hid hna
          rw [← hna] at hal hca ⊢
          clear hna
          go_wp2_with fail
          have hnl : nf ≤ 16777216 := by
            have := nms_len p.f1
            have h := HNF.out
            unfold whosL at h
            rw [List.length_map] at h
            omega
          have hn2l : n2 ≤ 16777216 := by
            have h := HNF2.out
            have := HOS.out
            unfold whatsL at h
            rw [List.length_map, ← this] at h
            omega
          obtain ⟨R, hR⟩ : ∃ R : Nat → List Tri, R = fun k => ((whosL p).take k).flatMap fun s => rowO p s (whatsL p) := ⟨_, rfl⟩
          have HR := Lib.hid hR
          clear hR
          go_loopw [14, 73] (fun v i wr => ∃ (k : Nat) (A' : Option Addr) (c' : Nat), k ≤ nf ∧ i = .int .i64 (k : Nat) ∧ v = .slice A' (R k).length c' ∧ Kd.N k30 30 wr WD.heap.size (fun _ => True) (.slice A' (R k).length c') (R k) ∧ Below WD.heap.size WD wr) (fun _ i _ => nf - (intOf i).toNat)
          case atStart =>
            have h0 : R 0 = [] := by rw [HR.out]; rfl
            exact ⟨0, none, 0, Nat.zero_le _, rfl, by rw [h0]; rfl, by rw [h0]; exact Kd.N_nil _ _ _ _ _, Below.refl _ _⟩
          case round =>
            obtain ⟨k1, A3', c3', hk1, rfl, rfl, hN3, hB3⟩ := hrel
            obtain ⟨n3, hn3⟩ : ∃ n3, n3 = (R k1).length := ⟨_, rfl⟩
            rw [← hn3] at hN3 ⊢
            obtain ⟨WE, rfl⟩ : ∃ x, x = wr := ⟨wr, rfl⟩
            have HN3 := Lib.hid hN3
            have HB3 := Lib.hid hB3
            have HNF3 := Lib.hid hn3
            clear hN3 hB3 hn3
            by_cases hlt1 : k1 < nf
            · obtain ⟨ad, m1, rfl, e0, e1, e2, hs1⟩ := at_Sd HWD.out k1 (by rw [← HNF.out]; exact hlt1)
              have e0 := pw_cell_below HB3.out e0
              have e1 := pw_cell_below HB3.out e1
              have e2 := pw_cell_below HB3.out e2
              obtain ⟨s, hs⟩ : ∃ s, s = (whosL p).getD k1 default := ⟨_, rfl⟩
              rw [← hs] at e0 e1 hs1
              have hks : (whosL p)[k1]? = some s := by rw [hs, List.getD_eq_getElem?_getD, List.getElem?_eq_getElem (by rw [← HNF.out]; exact hlt1)]; rfl
              have HKS := Lib.hid hks
              have HS1 := Lib.hid hs1
              clear hs hks hs1
              obtain ⟨W5, hW5⟩ : ∃ W5, W5 = WE.alloc (Obj.cells #[Value.string s.n, Value.float .f64 s.t, Value.map (some m1)] 112) := ⟨_, rfl⟩
              have hb5 : Below WE.heap.size WE W5 := by rw [hW5]; exact (Below.refl _ _).alloc (Nat.le_refl _) _
              have hx5 : W5.heap[WE.heap.size]? = some (.cells #[Value.string s.n, Value.float .f64 s.t, Value.map (some m1)] 112 (0, 0)) := by rw [hW5]; exact heap_new _ _
              have HB5 := Lib.hid hb5
              have HX5 := Lib.hid hx5
              clear hb5 hx5
              go_wp2_with fail
              rw [← hW5]
              clear hW5 e0 e1 e2
              obtain ⟨R2, hR2⟩ : ∃ R2 : Nat → List Tri, R2 = fun k => R k1 ++ rowO p s ((whatsL p).take k) := ⟨_, rfl⟩
              have HR2 := Lib.hid hR2
              clear hR2
              go_loopw [14, 79] (fun v i wr => ∃ (k : Nat) (A' : Option Addr) (c' : Nat), k ≤ n2 ∧ i = .int .i64 (k : Nat) ∧ v = .slice A' (R2 k).length c' ∧ Kd.N k30 30 wr WD.heap.size (fun _ => True) (.slice A' (R2 k).length c') (R2 k) ∧ Below WD.heap.size WD wr ∧ WE.heap.size ≤ wr.heap.size ∧ wr.heap[WE.heap.size]? = some (.cells #[Value.string s.n, Value.float .f64 s.t, Value.map (some m1)] 112 (0, 0))) (fun _ i _ => n2 - (intOf i).toNat)
              case atStart =>
                have h0 : R2 0 = R k1 := by rw [HR2.out]; show R k1 ++ rowO p s ((whatsL p).take 0) = _; simp [rowO]
                exact ⟨0, A3', c3', Nat.zero_le _, rfl, by rw [h0, ← HNF3.out], by rw [h0, ← HNF3.out]; exact Kd.N_below HN3.out HB5.out, HB3.out.trans (HB5.out.mono HB3.out.size), HB5.out.size, HX5.out⟩
              case round =>
                obtain ⟨k2, A4', c4', hk2, rfl, rfl, hN4, hB4, hle4, hx4⟩ := hrel
                obtain ⟨n4, hn4⟩ : ∃ n4, n4 = (R2 k2).length := ⟨_, rfl⟩
                rw [← hn4] at hN4 ⊢
                obtain ⟨WF, rfl⟩ : ∃ x, x = wr := ⟨wr, rfl⟩
                have HN4 := Lib.hid hN4
                have HB4 := Lib.hid hB4
                have HNF4 := Lib.hid hn4
                have HX4 := Lib.hid hx4
                clear hN4 hB4 hn4 hx4
                by_cases hlt2 : k2 < n2
                · obtain ⟨ad2, m2, rfl, e0, e1, e2, hs2⟩ := at_Sd HOD.out k2 (by rw [← HNF2.out]; exact hlt2)
                  have e0 := pw_cell_below HB4.out e0
                  have e1 := pw_cell_below HB4.out e1
                  have e2 := pw_cell_below HB4.out e2
                  obtain ⟨o, ho⟩ : ∃ o, o = (whatsL p).getD k2 default := ⟨_, rfl⟩
                  rw [← ho] at e0 e1 hs2
                  have hko : (whatsL p)[k2]? = some o := by rw [ho, List.getD_eq_getElem?_getD, List.getElem?_eq_getElem (by rw [← HNF2.out]; exact hlt2)]; rfl
                  have HKO := Lib.hid hko
                  have HS2 := Lib.hid hs2
                  clear ho hko hs2
                  obtain ⟨W7, hW7⟩ : ∃ W7, W7 = WF.alloc (Obj.cells #[Value.string o.n, Value.float .f64 o.t, Value.map (some m2)] 112) := ⟨_, rfl⟩
                  have hb7 : Below WF.heap.size WF W7 := by rw [hW7]; exact (Below.refl _ _).alloc (Nat.le_refl _) _
                  have hy7 : W7.heap[WF.heap.size]? = some (.cells #[Value.string o.n, Value.float .f64 o.t, Value.map (some m2)] 112 (0, 0)) := by rw [hW7]; exact heap_new _ _
                  have hx7 := (hb7.block _ (lt_of_get HX4.out)).trans HX4.out
                  have hD7 := HB4.out.trans (hb7.mono HB4.out.size)
                  have hp7 := (hD7.block _ (lt_of_get HPD.out)).trans HPD.out
                  have HB7 := Lib.hid hb7
                  have HY7 := Lib.hid hy7
                  have HX7 := Lib.hid hx7
                  have HD7 := Lib.hid hD7
                  have HP7 := Lib.hid hp7
                  have HBW7 := Lib.hid (HBD.out.trans (hD7.mono HBD.out.size))
                  have q0 := (blk_cell hp7 0).trans (Eq.refl (some (Value.slice A0 p.f0.length c0)))
                  have q1 := (blk_cell hp7 1).trans (Eq.refl (some (Value.slice A1 p.f1.length c1)))
                  have q2 := (blk_cell hp7 2).trans (Eq.refl (some (Value.slice A2 p.f2.length c2)))
                  have q3 := (blk_cell hp7 3).trans (Eq.refl (some (Value.slice A3 p.f3.length c3)))
                  have q4 := (blk_cell hp7 4).trans (Eq.refl (some (Value.slice A4 p.f4.length c4)))
                  have q5 := (blk_cell hp7 5).trans (Eq.refl (some (Value.slice A5 p.f5.length c5)))
                  have q6 := (blk_cell hp7 6).trans (Eq.refl (some (Value.slice A6 p.f6.length c6)))
                  have q7 := (blk_cell hp7 7).trans (Eq.refl (some (Value.slice A7 p.f7.length c7)))
                  have q8 := (blk_cell hp7 8).trans (Eq.refl (some (Value.slice A8 p.f8.length c8)))
                  have q9 := (blk_cell hp7 9).trans (Eq.refl (some (Value.slice A9 p.f9.length c9)))
                  have q10 := (blk_cell hp7 10).trans (Eq.refl (some (Value.slice A10 p.f10.length c10)))
                  have a0 := (blk_cell hx7 0).trans (Eq.refl (some (Value.string s.n)))
                  have a1 := (blk_cell hx7 1).trans (Eq.refl (some (Value.float .f64 s.t)))
                  have a2 := (blk_cell hx7 2).trans (Eq.refl (some (Value.map (some m1))))
                  have b0 := (blk_cell hy7 0).trans (Eq.refl (some (Value.string o.n)))
                  have b1 := (blk_cell hy7 1).trans (Eq.refl (some (Value.float .f64 o.t)))
                  have b2 := (blk_cell hy7 2).trans (Eq.refl (some (Value.map (some m2))))
                  clear hb7 hy7 hx7 hD7 hp7
                  rw [hW7] at q0 q1 q2 q3 q4 q5 q6 q7 q8 q9 q10 a0 a1 a2 b0 b1 b2
                  go_wp2_with fail
                  rw [← hW7]
                  clear hW7 e0 e1 e2 q0 q1 q2 q3 q4 q5 q6 q7 q8 q9 q10 a0 a1 a2 b0 b1 b2
                  refine (about_from p _ s.n o.n s.t o.t m1 m2 s.us o.us W7 w HK0.out HBW7.out (IsRaw.below HS1.out HD7.out) (IsRaw.below HS2.out HD7.out) HN.out.r).mono ?_
                  rintro e W8 ⟨v, rfl, hNR, hb8⟩
                  obtain ⟨AR, cR, rfl⟩ := Kd.N_slice hNR
                  obtain ⟨-, hcR, -⟩ := Kd.N_reads' hNR
                  obtain ⟨rs, hrs⟩ : ∃ rs, rs = aboutL p s.t s.us o.us := ⟨_, rfl⟩
                  rw [← hrs] at hNR hcR ⊢
                  have hrl : rs.length ≤ 16777216 := by
                    rw [hrs]
                    exact Nat.le_trans (List.length_filter_le _ _) HN.out.r
                  have HRS := Lib.hid hrs
                  have HNR := Lib.hid hNR
                  have HD8 := Lib.hid (HD7.out.trans (hb8.mono HD7.out.size))
                  have HX8 := Lib.hid ((hb8.block _ (lt_of_get HX7.out)).trans HX7.out)
                  have HY8 := Lib.hid ((hb8.block _ (lt_of_get HY7.out)).trans HY7.out)
                  have HN8 := Lib.hid (Kd.N_below (Kd.N_below HN4.out HB7.out) hb8)
                  have HL8 := Lib.hid (Nat.le_trans HB7.out.size hb8.size)
                  clear hrs hNR hb8
                  go_wp2_with fail
                  obtain ⟨R3, hR3⟩ : ∃ R3 : Nat → List Tri, R3 = fun k => R2 k2 ++ rowA p s o ((actsL p).take k) := ⟨_, rfl⟩
                  have HR3 := Lib.hid hR3
                  clear hR3
                  go_loopw [14, 89] (fun v i wr => ∃ (k : Nat) (A' : Option Addr) (c' : Nat), k ≤ na ∧ i = .int .i64 (k : Nat) ∧ v = .slice A' (R3 k).length c' ∧ Kd.N k30 30 wr WD.heap.size (fun _ => True) (.slice A' (R3 k).length c') (R3 k) ∧ Below WD.heap.size WD wr ∧ WE.heap.size ≤ wr.heap.size ∧ wr.heap[WE.heap.size]? = some (.cells #[Value.string s.n, Value.float .f64 s.t, Value.map (some m1)] 112 (0, 0)) ∧ wr.heap[WF.heap.size]? = some (.cells #[Value.string o.n, Value.float .f64 o.t, Value.map (some m2)] 112 (0, 0)) ∧ Kd.N k75 75 wr W7.heap.size (fun k' => True ∧ some k' ≠ (Value.slice A' (R3 k).length c').ownBlock) (.slice AR rs.length cR) rs) (fun _ i _ => na - (intOf i).toNat)
                  case atStart =>
                    have h0 : R3 0 = R2 k2 := by rw [HR3.out]; show R2 k2 ++ rowA p s o ((actsL p).take 0) = _; simp [rowA]
                    refine ⟨0, A4', c4', Nat.zero_le _, rfl, by rw [h0, ← HNF4.out], by rw [h0, ← HNF4.out]; exact HN8.out, HD8.out, Nat.le_trans hle4 HL8.out, HX8.out, HY8.out, ?_⟩
                    rw [h0, ← HNF4.out]
                    refine Kd.N_mono HNR.out (fun j hj => ⟨trivial, fun e => ?_⟩)
                    have h1 := Kd.N_base HN4.out j e.symm
                    have h2 := Kd.N_lt HN4.out j e.symm
                    have := HBD.out.size
                    have := HB7.out.size
                    rcases hj with hj | hj <;> omega
                  case round =>
                    obtain ⟨k3, A5', c5', hk3, rfl, rfl, hN5, hB5, hle5, hx5, hy5, hNR5⟩ := hrel
                    obtain ⟨n5, hn5⟩ : ∃ n5, n5 = (R3 k3).length := ⟨_, rfl⟩
                    rw [← hn5] at hN5 hNR5 ⊢
                    obtain ⟨WG, rfl⟩ : ∃ x, x = wr := ⟨wr, rfl⟩
                    have HN5 := Lib.hid hN5
                    have HB5' := Lib.hid hB5
                    have HNF5 := Lib.hid hn5
                    have HX5' := Lib.hid hx5
                    have HY5' := Lib.hid hy5
                    have HNR5 := Lib.hid hNR5
                    clear hN5 hB5 hn5 hx5 hy5 hNR5
                    by_cases hlt3 : k3 < na
                    · obtain ⟨ad3, rfl, e0⟩ := str_at (Kd.C_below HCA.out HB5'.out) k3 (by rw [← HNA.out]; exact hlt3)
                      obtain ⟨x, hx⟩ : ∃ x, x = (actsL p).getD k3 ByteArray.empty := ⟨_, rfl⟩
                      rw [← hx] at e0
                      have hkx : (actsL p)[k3]? = some x := by rw [hx, List.getD_eq_getElem?_getD, List.getElem?_eq_getElem (by rw [← HNA.out]; exact hlt3)]; rfl
                      have HKX := Lib.hid hkx
                      clear hx hkx
                      have HRN := Lib.hid (show R3 (k3 + 1) = R3 k3 ++ if allowB rs p.f10 ⟨s.n, o.n, x⟩ = true then [⟨s.n, o.n, x⟩] else [] from by
                        rw [HR3.out]
                        show R2 k2 ++ rowA p s o ((actsL p).take (k3 + 1)) = R2 k2 ++ rowA p s o ((actsL p).take k3) ++ _
                        rw [List.take_add_one, HKX.out, List.append_assoc, HRS.out]
                        congr 1
                        exact rowA_snoc p s o _ x)
                      have HLEN := Lib.hid (show (R3 k3).length < 16777216 from by
                        have h1 := HNF.out
                        have h2 := HNF2.out
                        have h3 := HNA.out
                        have := rel_len p k1 k2 k3 s o (by omega) (by omega) (by omega) HCAP.out
                        rw [HR3.out]
                        show (R2 k2 ++ rowA p s o ((actsL p).take k3)).length < _
                        rw [HR2.out]
                        show (R k1 ++ rowO p s ((whatsL p).take k2) ++ rowA p s o ((actsL p).take k3)).length < _
                        rw [HR.out]
                        exact this)
                      obtain ⟨W9, hW9⟩ : ∃ W9, W9 = WG.alloc (Obj.cells #[Value.string s.n, Value.string o.n, Value.string x] 30) := ⟨_, rfl⟩
                      have hb9 : Below WG.heap.size WG W9 := by rw [hW9]; exact (Below.refl _ _).alloc (Nat.le_refl _) _
                      have hz9 : W9.heap[WG.heap.size]? = some (.cells #[Value.string s.n, Value.string o.n, Value.string x] 30 (0, 0)) := by rw [hW9]; exact heap_new _ _
                      have hx9 := (hb9.block _ (lt_of_get HX5'.out)).trans HX5'.out
                      have hy9 := (hb9.block _ (lt_of_get HY5'.out)).trans HY5'.out
                      have hD9 := HB5'.out.trans (hb9.mono HB5'.out.size)
                      have hp9 := (hD9.block _ (lt_of_get HPD.out)).trans HPD.out
                      have HZ9 := Lib.hid hz9
                      have HX9 := Lib.hid hx9
                      have HY9 := Lib.hid hy9
                      have HD9 := Lib.hid hD9
                      have HB9 := Lib.hid hb9
                      have HBW9 := Lib.hid (HBD.out.trans (hD9.mono HBD.out.size))
                      have HN9 := Lib.hid (Kd.N_below HN5.out hb9)
                      have HNR9 := Lib.hid (Kd.N_below HNR5.out hb9)
                      have q0 := (blk_cell hp9 0).trans (Eq.refl (some (Value.slice A0 p.f0.length c0)))
                      have q1 := (blk_cell hp9 1).trans (Eq.refl (some (Value.slice A1 p.f1.length c1)))
                      have q2 := (blk_cell hp9 2).trans (Eq.refl (some (Value.slice A2 p.f2.length c2)))
                      have q3 := (blk_cell hp9 3).trans (Eq.refl (some (Value.slice A3 p.f3.length c3)))
                      have q4 := (blk_cell hp9 4).trans (Eq.refl (some (Value.slice A4 p.f4.length c4)))
                      have q5 := (blk_cell hp9 5).trans (Eq.refl (some (Value.slice A5 p.f5.length c5)))
                      have q6 := (blk_cell hp9 6).trans (Eq.refl (some (Value.slice A6 p.f6.length c6)))
                      have q7 := (blk_cell hp9 7).trans (Eq.refl (some (Value.slice A7 p.f7.length c7)))
                      have q8 := (blk_cell hp9 8).trans (Eq.refl (some (Value.slice A8 p.f8.length c8)))
                      have q9 := (blk_cell hp9 9).trans (Eq.refl (some (Value.slice A9 p.f9.length c9)))
                      have q10 := (blk_cell hp9 10).trans (Eq.refl (some (Value.slice A10 p.f10.length c10)))
                      have z0 := (blk_cell hz9 0).trans (Eq.refl (some (Value.string s.n)))
                      have z1 := (blk_cell hz9 1).trans (Eq.refl (some (Value.string o.n)))
                      have z2 := (blk_cell hz9 2).trans (Eq.refl (some (Value.string x)))
                      have a0 := (blk_cell HX5'.out 0).trans (Eq.refl (some (Value.string s.n)))
                      have b0 := (blk_cell HY5'.out 0).trans (Eq.refl (some (Value.string o.n)))
                      clear hb9 hz9 hx9 hy9 hD9 hp9
                      rw [hW9] at q0 q1 q2 q3 q4 q5 q6 q7 q8 q9 q10 z0 z1 z2
                      by_cases hr0 : rs.length = 0
                      · have hnil : rs = [] := List.length_eq_zero_iff.1 hr0
                        have HF := Lib.hid (show allowB rs p.f10 ⟨s.n, o.n, x⟩ = false from by rw [hnil]; rfl)
                        have HR0 := Lib.hid hr0
                        have hr1 : ¬ (rs.length : Int) > 0 := by omega
                        clear hnil hr0
                        go_wp2_with fail
                        go_roundw
                        case rel =>
                          have e1 : R3 (k3 + 1) = R3 k3 := by rw [HRN.out, HF.out]; simp
                          rw [← hW9]
                          exact ⟨k3 + 1, A5', c5', hlt3, by go_num, by rw [e1, ← HNF5.out], by rw [e1, ← HNF5.out]; exact HN9.out, HD9.out, Nat.le_trans hle5 HB9.out.size, HX9.out, HY9.out, by rw [e1, ← HNF5.out]; exact HNR9.out⟩
                        case measure => simp [intOf]; omega
                      · have hr1 : (rs.length : Int) > 0 := by omega
                        go_wp2_with fail
                        rw [← hW9]
                        clear hW9 q0 q1 q2 q3 q4 q5 q6 q7 q8 q9 q10 z0 z1 z2 a0 b0 e0
                        refine (allows_calls p _ rs AR cR ⟨s.n, o.n, x⟩ W9 (k28.K_below HBW9.out HK0.out) (Kd.N_reads' HNR9.out).2.2 hcR).mono ?_
                        rintro e W10 ⟨rfl, hb10⟩
                        have HZ10 := Lib.hid ((hb10.block _ (lt_of_get HZ9.out)).trans HZ9.out)
                        have HX10 := Lib.hid ((hb10.block _ (lt_of_get HX9.out)).trans HX9.out)
                        have HY10 := Lib.hid ((hb10.block _ (lt_of_get HY9.out)).trans HY9.out)
                        have HD10 := Lib.hid (HD9.out.trans (hb10.mono HD9.out.size))
                        have HN10 := Lib.hid (Kd.N_below HN9.out hb10)
                        have HNR10 := Lib.hid (Kd.N_below HNR9.out hb10)
                        have HS10 := Lib.hid (Nat.le_trans (Nat.le_trans hle5 HB9.out.size) hb10.size)
                        clear hb10
                        cases hq : allowB rs p.f10 ⟨s.n, o.n, x⟩ with
                        | false =>
                          have HQ := Lib.hid hq
                          clear hq
                          go_wp2_with fail
                          go_roundw
                          case rel =>
                            have e1 : R3 (k3 + 1) = R3 k3 := by rw [HRN.out, HQ.out]; simp
                            exact ⟨k3 + 1, A5', c5', hlt3, by go_num, by rw [e1, ← HNF5.out], by rw [e1, ← HNF5.out]; exact HN10.out, HD10.out, HS10.out, HX10.out, HY10.out, by rw [e1, ← HNF5.out]; exact HNR10.out⟩
                          case measure => simp [intOf]; omega
                        | true =>
                          have HQ := Lib.hid hq
                          clear hq
                          have z0 := (blk_cell HZ10.out 0).trans (Eq.refl (some (Value.string s.n)))
                          have z1 := (blk_cell HZ10.out 1).trans (Eq.refl (some (Value.string o.n)))
                          have z2 := (blk_cell HZ10.out 2).trans (Eq.refl (some (Value.string x)))
                          go_wp2_with ((with_reducible refine gate_builtin (b := .append) (xs := #[.tmp 108, .tmp 110]) rfl ?_); at_builtin; go_must (refine Kd.N_append k30 (w0 := WD) WD.heap.size rfl (.tmp 108) (.tmp 110) 26 30 (.agg #[.string ⟨#[]⟩, .string ⟨#[]⟩, .string ⟨#[]⟩]) 48 rfl Try.underlying26 infoTri rfl (by decide) (by omega) (.slice A5' n5 c5') (R3 k3) ⟨s.n, o.n, x⟩ [.string s.n, .string o.n, .string x] (fun _ => True) (fun _ => False) rfl rfl (kTri_FK _ _) (fun _ h => h.elim) (fun _ _ => trivial) HN10.out HD10.out HD10.out.size (by have := HLEN.out; omega) ?_); go_must (intro v1 w4 hN1 hb4 hg4 hat4; obtain ⟨A6, c6', hv⟩ := Kd.N_slice hN1; subst hv); have HN11 := Lib.hid hN1; have HD11 := Lib.hid hb4; have HX11 := Lib.hid ((hg4.block _ (lt_of_get HX10.out) (Kd.N_ne HN10.out HX10.out (by decide))).trans HX10.out); have HY11 := Lib.hid ((hg4.block _ (lt_of_get HY10.out) (Kd.N_ne HN10.out HY10.out (by decide))).trans HY10.out); have HNR11 := Lib.hid (Kd.N_after HNR10.out hg4 hat4); have HS11 := Lib.hid (Nat.le_trans HS10.out hg4.size); clear hN1 hb4 hg4 hat4)
                          go_roundw
                          case rel =>
                            obtain ⟨tt, htt⟩ : ∃ tt : Tri, tt = ⟨s.n, o.n, x⟩ := ⟨_, rfl⟩
                            have e1 : R3 (k3 + 1) = R3 k3 ++ [tt] := by rw [HRN.out, HQ.out, htt]; simp
                            exact ⟨k3 + 1, A6, c6', hlt3, by go_num, by rw [e1, List.length_append]; rfl, by rw [e1, htt]; exact HN11.out, HD11.out, HS11.out, HX11.out, HY11.out, by rw [e1, htt]; exact HNR11.out⟩
                          case measure => simp [intOf]; omega
                    · obtain rfl : k3 = na := by omega
                      go_wp2_with fail
                      go_roundw
                      case rel =>
                        have e1 : R2 (k2 + 1) = R3 k3 := by
                          rw [HR2.out, HR3.out]
                          show R k1 ++ rowO p s ((whatsL p).take (k2 + 1)) = R2 k2 ++ rowA p s o ((actsL p).take k3)
                          rw [List.take_add_one, HKO.out, HNA.out, List.take_length, HR2.out, List.append_assoc]
                          congr 1
                          exact rowO_snoc p s o _
                        exact ⟨k2 + 1, A5', c5', hlt2, by go_num, by rw [e1, ← HNF5.out], by rw [e1, ← HNF5.out]; exact HN5.out, HB5'.out, hle5, HX5'.out⟩
                      case measure => simp [intOf]; omega
                · obtain rfl : k2 = n2 := by omega
                  go_wp2_with fail
                  go_roundw
                  case rel =>
                    have e1 : R (k1 + 1) = R2 k2 := by
                      rw [HR2.out, HR.out]
                      show ((whosL p).take (k1 + 1)).flatMap _ = ((whosL p).take k1).flatMap _ ++ rowO p s ((whatsL p).take k2)
                      rw [List.take_add_one, HKS.out, HNF2.out, List.take_length, List.flatMap_append]
                      simp
                    exact ⟨k1 + 1, A4', c4', hlt1, by go_num, by rw [e1, ← HNF4.out], by rw [e1, ← HNF4.out]; exact HN4.out, HB4.out⟩
                  case measure => simp [intOf]; omega
            · obtain rfl : k1 = nf := by omega
              go_wp2
              go_ret
              have e1 : R k1 = relL p := by
                rw [HR.out]
                show ((whosL p).take k1).flatMap _ = _
                rw [HNF.out, List.take_length]
                rfl
              refine ⟨_, rfl, ?_, HBD.out.trans (HB3.out.mono HBD.out.size)⟩
              rw [← e1]
              exact Kd.N_lower HN3.out HBD.out.size
end Go.Proofs.Yteefneemmdfncaa.M
namespace Go.Proofs.Yteefneemmdfncaa.M
open Go.RowKit Go.Proofs.YteefneemmdfncaaW.Raw Go.Proofs.YteefneemmdfncaaW.PrintWords Go.Proofs.Yteefneemmdfncaa.F
set_option linter.unusedVariables false
attribute [local go_sem] run_store_float
end Go.Proofs.Yteefneemmdfncaa.M
namespace Go.Proofs.Yteefneemmdfncaa.M
open Go.RowKit Go.Proofs.YteefneemmdfncaaW.Raw Go.Proofs.YteefneemmdfncaaW.PrintWords Go.Proofs.Yteefneemmdfncaa.F
set_option linter.unusedVariables false
def okB (p : Pol) : Bool := decide (p.f5.length + p.f6.length ≤ 16777215) && decide (p.f7.length + p.f8.length ≤ 16777215) && decide (p.f9.length ≤ 16777216) && decide (p.f0.length ≤ 16777216) && decide (p.f1.length ≤ 16777216) && decide (p.f3.length ≤ 16777216)
theorem okB_iff {p : Pol} : okB p = true ↔ OkP p := by
  simp only [okB, Bool.and_eq_true, decide_eq_true_eq]
  exact ⟨fun ⟨⟨⟨⟨⟨h1, h2⟩, h3⟩, h4⟩, h5⟩, h6⟩ => ⟨h1, h2, h3, h4, h5, h6⟩, fun h => ⟨⟨⟨⟨⟨h.s, h.o⟩, h.r⟩, h.a⟩, h.u⟩, h.b⟩⟩
end Go.Proofs.Yteefneemmdfncaa.M
