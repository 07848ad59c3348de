import Derived.Test.YtcoodlncjnekoaaTe
import Derived.Test.YtcoodlncjnekoaaCut
/- JournalCut, the plain law and its walk: cut off anywhere, what is there whole is read. Conditions: as many entries as the row's bound lets in. -/
namespace Go.Proofs.Ytcoodlncjnekoaa.F
open Go.RowKit Go.Proofs.YtcoodlncjnekoaaW.PrintWords Go.Proofs.YtcoodlncjnekoaaW.PrintLast Go.Proofs.YtcoodlncjnekoaaW.PrintMore Go.Proofs.JournalPlain
set_option linter.unusedVariables false
def recE (e : S23) : List Int := recL e.f0 e.f1
def cat (es : List S23) : List Int := (es.map recE).flatten
def Fit (es : List S23) : Prop := ∀ e ∈ es, fit_ e.f0 e.f1
def EE (es : List S23) (m : Nat) : Nat := (cat (es.take m)).length
theorem cat_append (a b : List S23) : cat (a ++ b) = cat a ++ cat b := by simp [cat]
theorem recE_length (e : S23) : (recE e).length = e.f1.size + 17 := recL_length _ _
theorem cat_succ (es : List S23) (j : Nat) (h : j < es.length) : cat (es.take (j + 1)) = cat (es.take j) ++ recE es[j] := by
  rw [List.take_succ_eq_append_getElem h, cat_append]
  simp [cat]
theorem EE_succ (es : List S23) (j : Nat) (h : j < es.length) : EE es (j + 1) = EE es j + (es[j].f1.size + 17) := by
  unfold EE
  rw [cat_succ es j h, List.length_append, recE_length]
theorem cat_split (es : List S23) (j : Nat) (h : j < es.length) : cat es = cat (es.take j) ++ (recE es[j] ++ cat (es.drop (j + 1))) := by
  have e : cat es = cat (es.take j ++ es.drop j) := by rw [List.take_append_drop]
  have e2 : ∀ (x : S23) l, cat (x :: l) = recE x ++ cat l := fun x l => by simp [cat]
  rw [e, cat_append, List.drop_eq_getElem_cons h, e2]
theorem EE_mono (es : List S23) : ∀ d j, j + d ≤ es.length → EE es j ≤ EE es (j + d) := by
  intro d
  induction d with
  | zero => intro j _; exact Nat.le_refl _
  | succ d ih =>
    intro j hj
    have := ih j (by omega)
    rw [show j + (d + 1) = (j + d) + 1 by omega, EE_succ es _ (by omega)]
    omega
theorem EE_le {es : List S23} {i j : Nat} (h : i ≤ j) (hj : j ≤ es.length) : EE es i ≤ EE es j := by
  obtain ⟨d, rfl⟩ := Nat.exists_eq_add_of_le h
  exact EE_mono es d i hj
theorem EE_all (es : List S23) : EE es es.length = (cat es).length := by unfold EE; rw [List.take_length]
theorem cat_bound (es : List S23) (h : Fit es) : ∀ j, j ≤ es.length → EE es j ≤ j * 65553 := by
  intro j
  induction j with
  | zero => intro _; simp [EE, cat]
  | succ j ih =>
    intro hj
    rw [EE_succ es j (by omega)]
    have := ih (by omega)
    have := (h _ (List.getElem_mem (show j < es.length by omega))).2.2
    omega
/-- What is left of a cut text behind the first j records. -/
theorem cut_drop (es : List S23) (kk j : Nat) (hj : j < es.length) : ((cat es).take kk).drop (EE es j) = (recE es[j] ++ cat (es.drop (j + 1))).take (kk - EE es j) := by
  rw [List.drop_take]
  congr 1
  conv => lhs; rw [cat_split es j hj]
  exact List.drop_left' rfl
theorem reads_cut (es : List S23) (hf : Fit es) (hn : es.length ≤ 1048576) (kk : Nat) (hk : kk ≤ (cat es).length) (m : Nat) (hm : m ≤ es.length) (h1 : EE es m ≤ kk) (h2 : m < es.length → kk < EE es (m + 1)) (X : ByteArray) (hX : bytesOf X = (cat es).take kk) :
    ∀ q, q ≤ m → ∀ k, 700000 ≤ k → journal_Read.l0 (k + 1 + q) X (es.take (m - q)) ((EE es (m - q) : Nat) : Int) = some (es.take m, ((EE es m : Nat) : Int)) := by
  have hXs : X.size = kk := by rw [← bytesOf_length, hX, List.length_take]; omega
  have hb := cat_bound es hf es.length (Nat.le_refl _)
  rw [EE_all] at hb
  intro q
  induction q with
  | zero =>
    intro _ k hk7
    rw [Nat.sub_zero, Nat.add_zero]
    refine Read_end k X (by omega) _ _ ?_ (by omega) hk7
    rintro v t ⟨hfit, mm, hmm⟩
    have hl := congrArg List.length hmm
    rw [bytesOf_extract, hXs, List.length_append, recL_length] at hl
    rw [bytesOf_extract, hXs, List.take_of_length_le (by rw [bytesOf_length, hXs]; exact Nat.le_refl _), hX] at hmm
    rcases Nat.lt_or_ge m es.length with hlt | hge
    · have h3 := h2 hlt
      rw [cut_drop es kk m hlt] at hmm
      have h4 := EE_succ es m hlt
      have e : recE es[m] ++ cat (es.drop (m + 1)) = recL v t ++ (mm ++ (recE es[m] ++ cat (es.drop (m + 1))).drop (kk - EE es m)) := by
        rw [← List.append_assoc, ← hmm, List.take_append_drop]
      obtain ⟨e1, e2, _⟩ := rec_unique (hf _ (List.getElem_mem hlt)) hfit _ _ e
      rw [List.length_drop, List.length_take, bytesOf_length, hXs] at hl
      rw [← e2] at hl
      omega
    · have : m = es.length := by omega
      subst this
      rw [EE_all] at hl h1
      rw [List.length_drop, List.length_take, bytesOf_length, hXs] at hl
      omega
  | succ q ih =>
    intro hq k hk7
    have hj : m - (q + 1) < es.length := by omega
    have h3 : EE es (m - (q + 1) + 1) ≤ EE es m := EE_le (by omega) hm
    have h4 := EE_succ es _ hj
    have hfe := hf _ (List.getElem_mem hj)
    rw [show k + 1 + (q + 1) = (k + 1 + q) + 1 by omega]
    rw [Read_step (k + 1 + q) X (by omega) _ _ (es[m - (q + 1)]).f0 (es[m - (q + 1)]).f1 ⟨hfe, (cat (es.drop (m - (q + 1) + 1))).take (kk - EE es (m - (q + 1)) - (recE es[m - (q + 1)]).length), ?_⟩ (by omega) (by rw [List.length_take]; omega) (by omega)]
    · have e1 : es.take (m - (q + 1)) ++ [(⟨(es[m - (q + 1)]).f0, (es[m - (q + 1)]).f1⟩ : S23)] = es.take (m - q) := by
        rw [show m - q = (m - (q + 1)) + 1 by omega, List.take_succ_eq_append_getElem hj]
      rw [e1, ← h4, show m - (q + 1) + 1 = m - q by omega]
      exact ih (by omega) k hk7
    · rw [bytesOf_extract, hXs, List.take_of_length_le (by rw [bytesOf_length, hXs]; exact Nat.le_refl _), hX, cut_drop es kk _ hj, List.take_append, List.take_of_length_le (by rw [recE_length]; omega)]
      rfl
def fitE (e : S23) : S23 := ⟨fitV e.f0, fitT e.f1⟩
def Bt (es : List S23) (j : Nat) : ByteArray := strOfNums (cat (es.take j))
def En (es : List S23) (j : Nat) : List Int := (List.range j).map fun i => ((EE es (i + 1) : Nat) : Int)
theorem Bt_size (es : List S23) (j : Nat) : (Bt es j).size = EE es j := by rw [Bt, son_size]; rfl
theorem cut_l0 (xs es : List S23) (hes : es = xs.map fitE) (hn : es.length ≤ 1048576) (hf : Fit es) (x1 : Int) : ∀ q, q ≤ es.length → ∀ k, 800000 ≤ k →
    gatehouselaw22_JournalCut.l0 (k + 1 + q) xs x1 true (Bt es (es.length - q)) (es.take (es.length - q)) (En es (es.length - q)) ((es.length - q : Nat) : Int) = gatehouselaw22_JournalCut.l0 (k + 1) xs x1 true (Bt es es.length) es (En es es.length) ((es.length : Nat) : Int) := by
  have hxl : xs.length = es.length := by rw [hes, List.length_map]
  intro q
  induction q with
  | zero => intro _ k _; rw [Nat.sub_zero, Nat.add_zero, List.take_length]
  | succ q ih =>
    intro hq k hk
    obtain ⟨j, hj⟩ : ∃ j, j = es.length - (q + 1) := ⟨_, rfl⟩
    have hjl : j < es.length := by omega
    have hjx : j < xs.length := by omega
    rw [← hj, show k + 1 + (q + 1) = (k + 1 + q) + 1 by omega, gatehouselaw22_JournalCut.l0, if_pos (by omega), if_pos (by omega)]
    have hrd : rd_T23 xs (j : Int) = xs[j] := by unfold rd_T23; simp [List.getD_eq_getElem?_getD, hjx]
    have hej : es[j] = fitE xs[j] := by simp only [hes, List.getElem_map]
    have hfj := hf _ (List.getElem_mem hjl)
    have hb := cat_bound es hf j (by omega)
    rw [hrd, fit_f, Option.bind_some]
    dsimp only
    have hf2 : fit_ (fitV xs[j].f0) (fitT xs[j].f1) := fit_fit _ _
    have hz := hf2.2.2
    rw [Frame_f _ _ _ (by unfold KF; omega), Option.bind_some, frame_fit hf2]
    show (if (0 : Int) = 0 then _ else _) = _
    rw [if_pos rfl, frameB_size, w64 _ (by omega) (by omega), if_pos (by omega), if_pos (by rw [Bt_size]; omega), if_pos (by rw [List.length_take]; omega), if_pos (by unfold En; rw [List.length_map, List.length_range]; omega), w64 _ (by omega) (by omega)]
    have e1 : Bt es j ++ frameB (fitV xs[j].f0) (fitT xs[j].f1) = Bt es (j + 1) := by
      unfold Bt frameB
      rw [← son_append, cat_succ es j hjl, hej]
      rfl
    have e2 : es.take j ++ [(⟨fitV xs[j].f0, fitT xs[j].f1⟩ : S23)] = es.take (j + 1) := by
      rw [List.take_succ_eq_append_getElem hjl, hej]
      rfl
    have e3 : En es j ++ [((Bt es (j + 1)).size : Int)] = En es (j + 1) := by
      unfold En
      rw [List.range_succ, List.map_append, Bt_size]
      rfl
    rw [e1, e2, e3, show (j : Int) + 1 = ((es.length - q : Nat) : Int) by omega, show j + 1 = es.length - q by omega]
    exact ih (by omega) k hk
def Inv (es : List S23) (kk j m : Nat) : Prop := m ≤ j ∧ EE es m ≤ kk ∧ (m < j → kk < EE es (m + 1))
theorem cut_l1 (es : List S23) (hn : es.length ≤ 1048576) (hf : Fit es) (kk : Nat) (B : ByteArray) (W : List S23) : ∀ q, q ≤ es.length → ∀ k m, Inv es kk (es.length - q) m →
    ∃ M, Inv es kk es.length M ∧ gatehouselaw22_JournalCut.l1 (k + 1 + q) true B W (En es es.length) (kk : Int) (m : Int) ((EE es m : Nat) : Int) ((es.length - q : Nat) : Int) = gatehouselaw22_JournalCut.l1 (k + 1) true B W (En es es.length) (kk : Int) (M : Int) ((EE es M : Nat) : Int) ((es.length : Nat) : Int) := by
  intro q
  induction q with
  | zero => intro _ k m h; exact ⟨m, by simpa using h, by rw [Nat.sub_zero, Nat.add_zero]⟩
  | succ q ih =>
    intro hq k m h
    obtain ⟨j, hj⟩ : ∃ j, j = es.length - (q + 1) := ⟨_, rfl⟩
    rw [← hj] at h ⊢
    have hjl : j < es.length := by omega
    have hlen : (En es es.length).length = es.length := by unfold En; rw [List.length_map, List.length_range]
    have hrd : rd (En es es.length) (j : Int) = ((EE es (j + 1) : Nat) : Int) := by unfold rd En; simp [List.getD_eq_getElem?_getD, hjl]
    have hb := cat_bound es hf (j + 1) (by omega)
    have nx : es.length - q = j + 1 := by omega
    rw [show k + 1 + (q + 1) = (k + 1 + q) + 1 by omega, gatehouselaw22_JournalCut.l1, if_pos (by omega), if_pos (by omega), hrd, w64 _ (by omega) (by omega)]
    obtain ⟨i1, i2, i3⟩ := h
    by_cases c : EE es (j + 1) ≤ kk
    · rw [if_pos (by omega)]
      have := ih (by omega) k (j + 1) (by rw [nx]; exact ⟨Nat.le_refl _, c, fun h => absurd h (Nat.lt_irrefl _)⟩)
      rw [nx] at this
      exact this
    · rw [if_neg (by omega)]
      have := ih (by omega) k m (by
        rw [nx]
        refine ⟨by omega, i2, fun hm => ?_⟩
        rcases Nat.lt_or_ge m j with h | h
        · exact i3 h
        · have : m = j := by omega
          subst this
          omega)
      rw [nx] at this
      exact this
theorem JournalCut_pure (xs : List S23) (hn : xs.length ≤ 1048576) (x1 : Int) : ∃ k, gatehouselaw22_JournalCut.f k xs x1 = some true := by
  obtain ⟨es, hes⟩ : ∃ es, es = xs.map fitE := ⟨_, rfl⟩
  have hxl : es.length = xs.length := by rw [hes, List.length_map]
  have hf : Fit es := by
    intro e he
    rw [hes] at he
    obtain ⟨y, _, rfl⟩ := List.mem_map.1 he
    exact fit_fit _ _
  have hb := cat_bound es hf es.length (Nat.le_refl _)
  obtain ⟨r, hr0, hr1, hr2⟩ := pick_f x1 (((Bt es es.length).size : Int) + 1) (by omega) (by rw [Bt_size]; omega)
  obtain ⟨kk, rfl⟩ := Int.eq_ofNat_of_zero_le hr1
  rw [Bt_size] at hr2
  -- the fuel
  obtain ⟨K, hK⟩ : ∃ K, K = 800000 + es.length + es.length := ⟨_, rfl⟩
  obtain ⟨M, ⟨m1, m2, m3⟩, hM⟩ := cut_l1 es (by omega) hf kk (Bt es es.length) es es.length (Nat.le_refl _) K 0 ⟨by omega, by simp [EE, cat], by omega⟩
  refine ⟨(K + 1 + es.length) + 1 + es.length, ?_⟩
  unfold gatehouselaw22_JournalCut.f
  rw [alive_f _ (by omega), Option.bind_some]
  have h0 := cut_l0 xs es hes (by omega) hf x1 es.length (Nat.le_refl _) (K + 1 + es.length) (by omega)
  rw [Nat.sub_self] at h0
  have e0 : Bt es 0 = (⟨#[]⟩ : ByteArray) := rfl
  have e1 : En es 0 = [] := rfl
  rw [e0, e1, List.take_zero] at h0
  show gatehouselaw22_JournalCut.l0 _ xs x1 true (⟨#[]⟩ : ByteArray) [] [] ((0 : Nat) : Int) = _
  rw [h0, gatehouselaw22_JournalCut.l0, if_neg (by omega), w64 _ (by rw [Bt_size]; omega) (by rw [Bt_size]; omega), hr0, Option.bind_some]
  rw [Nat.sub_self] at hM
  have z0 : EE es 0 = 0 := by simp [EE, cat]
  rw [z0] at hM
  show gatehouselaw22_JournalCut.l1 (K + 1 + es.length) true (Bt es es.length) es (En es es.length) (kk : Int) ((0 : Nat) : Int) ((0 : Nat) : Int) ((0 : Nat) : Int) = _
  rw [hM, gatehouselaw22_JournalCut.l1, if_neg (by unfold En; rw [List.length_map, List.length_range]; omega), if_pos (by omega), if_pos (by rw [Bt_size]; omega), Int.toNat_natCast]
  have hX : bytesOf ((Bt es es.length).extract 0 kk) = (cat es).take kk := by
    have hbb : bytesOf (Bt es es.length) = cat es := by
      unfold Bt
      rw [List.take_length]
      refine bytesOf_son _ fun x hx => ?_
      unfold cat at hx
      obtain ⟨l, hl, hx2⟩ := List.mem_flatten.1 hx
      obtain ⟨e, _, rfl⟩ := List.mem_map.1 hl
      exact recL_range _ _ x hx2
    rw [bytesOf_extract, List.drop_zero, hbb]
  have hR := reads_cut es hf (by omega) kk (by rw [← EE_all]; omega) M m1 m2 m3 _ hX M (Nat.le_refl _) (K - 1 - M) (by omega)
  rw [Nat.sub_self, z0, List.take_zero, show K - 1 - M + 1 + M = K by omega] at hR
  have hR' : journal_Read.f K ((Bt es es.length).extract 0 kk) = some (es.take M, ((EE es M : Nat) : Int)) := hR
  rw [hR', Option.bind_some, if_pos rfl, if_pos rfl, if_pos (by omega), if_pos (by omega), Int.toNat_natCast, same_refl _ (by rw [List.length_take]; omega) K (by rw [List.length_take]; omega)]
  rfl
theorem sum_ge {α : Type} (f : α → Nat) (h : ∀ x, 1 ≤ f x) : ∀ l : List α, l.length ≤ (l.map f).sum := by
  intro l
  induction l with
  | nil => simp
  | cons x l ih =>
    have := h x
    simp only [List.length_cons, List.map_cons, List.sum_cons]
    omega
theorem JournalCut.walk (x0 : (List S23)) (v0 : Value) (x1 : Int) (v1 : Value) (w : World) (hk0 : Kd.K (Kd.slice 23 k23) w x0 [v0]) (hg0 : (x0.length * 24 ≤ 140737488351232 ∧ x0.length ≤ 9223372036854775807 ∧ ∀ x_ ∈ x0, ((Lit.int .i64 x_.f0).wf = true ∧ x_.f1.size ≤ 140737488351232))) (hk1 : Kd.K (Kd.int .i64) w x1 [v1]) (hg1 : (Lit.int .i64 x1).wf = true) (hb : ((x0.map (fun x_ => ((1 + ((x_.f1.size + 1))) + 1))).sum + 1) + 1 ≤ 1048576) :
    Calls Try.prog 9 #[v0, v1] w fun e w' => e = .returned (.bool true) ∧ Below w.heap.size w w' := by
  obtain ⟨A, c, h0, hc, hr⟩ := hk0
  injection h0 with h0
  subst h0
  have h1 : [v1] = [Value.int .i64 x1] := hk1
  injection h1 with h1
  subst h1
  have hs := sum_ge (fun x_ : S23 => ((1 + ((x_.f1.size + 1))) + 1)) (fun x => by omega) x0
  obtain ⟨k, hk⟩ := JournalCut_pure x0 (by omega) x1
  refine (gatehouselaw22_JournalCut.calls k A c x0 x1 true w hr hc hk).mono ?_
  rintro e w' ⟨rfl, h⟩
  exact ⟨rfl, h⟩
end Go.Proofs.Ytcoodlncjnekoaa.F
