/- DiskExact: one call on a disk and on the document's. Conditions: the two lie as Pr says. -/
import Derived.Test.YtcoodlncjnekoaaEg
namespace Go.Proofs.Ytcoodlncjnekoaa.E
open Go.RowKit Go.Proofs.YtcoodlncjnekoaaW.PrintWords Go.Proofs.Ytcoodlncjnekoaa.D
set_option linter.unusedVariables false
set_option linter.unusedSimpArgs false
theorem On.q {B : Nat} {f : Nat → Prop} {W w1 : World} {g gr b2 b3 : Nat} {v vr : Value} {room : Int} {T : ByteArray} {s : Nat} {kd dk nn : Int} {tx : ByteArray} (h : On B f W w1 g gr b2 b3 v vr room T s kd dk nn tx) (hfv : ∀ k, foot g v k → f k) (hfr : ∀ k, foot gr vr k → f k) (h3 : s ≤ T.size) (h4 : (T.size : Int) ≤ room) (h5 : 0 ≤ room) (h6 : room ≤ 1048576) : OneQ B f W g gr w1 :=
  OneQ.mk h.k h.b (Kept.refl _ _) (Below.refl _ _) hfv hfr h.d h.r h3 h4 h5 h6 (.inl rfl) (.inl rfl)
theorem bytes_same (T : ByteArray) : (T == T) = true := (MapKept.bytes_beq T T).2 rfl
theorem bytes_same2 (T : ByteArray) : (T.toList == T.toList) = true := beq_self_eq_true _

set_option maxRecDepth 100000 in
set_option maxHeartbeats 1000000 in
theorem one_fits (B : Nat) (f : Nat → Prop) (W : World) (g gr : Nat) (v vr : Value) (room : Int) (T : ByteArray) (s : Nat) (hd : Dk W B g v room (s : Int) T) (hr : Rk W B gr vr room (lay (bytesOf T) s)) (h3 : s ≤ T.size) (h4 : (T.size : Int) ≤ room) (h5 : 0 ≤ room) (h6 : room ≤ 1048576) (hfv : ∀ k, foot g v k → f k) (hfr : ∀ k, foot gr vr k → f k) (kd dk nn : Int) (tx : ByteArray) (hkd : kd = 1) (htx : tx.size ≤ 140737488351232) (hfit : (tx.size : Int) ≤ room - T.size) :
    Calls Try.prog 22 #[.agg #[.pointer (some ⟨g, 0, none⟩), .pointer (some ⟨gr, 0, none⟩)], .agg #[.int .i64 kd, .int .i64 dk, .string tx, .int .i64 nn]] W fun e W' => e = .returned (.bool true) ∧ OneQ B f W g gr W' := by
  have HBW := Lib.hid (Nat.le_trans hd.base (Nat.le_of_lt hd.lt))
  have HD := Lib.hid hd
  have HR := Lib.hid hr
  have HF := Lib.hid (And.intro hfv hfr)
  have HT := Lib.hid (show T.size ≤ 1048576 from by omega)
  have H4 := Lib.hid (show s ≤ T.size ∧ (T.size : Int) ≤ room ∧ 0 ≤ room ∧ room ≤ 1048576 from ⟨h3, h4, h5, h6⟩)
  have hll : (bytesOf T).length = T.size := bytesOf_length T
  have HLL := Lib.hid hll
  have mixed := mixed
  have hk1 : (kd == 1) = true := beq_iff_eq.2 hkd
  clear hkd
  have HA := Lib.hid (fun (W' : World) (h : Dk W' B g v room (s : Int) T) (hw : B ≤ W'.heap.size) => append_dk2 h tx htx h6 h4 hw)
  simp only [hfit, if_true] at HA
  have hf2 : (tx.size : Int) ≤ room - ((lay (bytesOf T) s).length : Int) := by rw [lay_len, hll]; exact hfit
  have HA2 := Lib.hid (fun (W' : World) (h : Rk W' B gr vr room (lay (bytesOf T) s)) (hw : B ≤ W'.heap.size) => rapp_fits h tx (by rw [lay_len, hll]; omega) ⟨h5, h6⟩ hf2 hw)
  have HFT := Lib.hid hfit
  clear htx hfit hf2
  clear hd hr hfv hfr hll h3 h4 h5 h6
  go_enter Try.func22, Try.ntmps22
  go_wp2_with (first | ((with_reducible refine gate_dst (N := 2) rfl ?_); refine box_event rfl (N := 2) rfl (cs := #[.pointer (some ⟨g, 0, none⟩), .pointer (some ⟨gr, 0, none⟩)]) (t := 42) ?hr ?_; (case hr => first | (go_simp; done) | (go_simp; rfl)); intro b2 hg_ w1 hb2 hB1; clear hg_; have HB1 := Lib.hid hB1; have K2 := Lib.hid hb2; clear hb2 hB1) | ((with_reducible refine gate_dst (N := 3) rfl ?_); refine box_event rfl (N := 3) rfl (cs := #[.int .i64 kd, .int .i64 dk, .string tx, .int .i64 nn]) (t := 50) ?hr ?_; (case hr => first | (go_simp; done) | (go_simp; rfl)); intro b3 hg_ w2 hb3 hB2; clear hg_; have hb := HB1.out.trans (hB2.mono HB1.out.size); have hO : On B f W w2 g gr b2 b3 v vr room T s kd dk nn tx := ⟨HD.out.below hb, HR.out.below hb, (hB2.block _ (Array.getElem?_eq_some_iff.1 K2.out).1).trans K2.out, hb3, kept_below hb, hb.mono HBW.out⟩; have HO := Lib.hid hO; have c0 := hO.c0; have c1 := hO.c1; have o0 := hO.o0; have o2 := hO.o2; have o3 := hO.o3; have HBS := Lib.hid (Nat.le_trans HBW.out hb.size); clear hb3 hB2 hb hO) | (go_at_call 31; refine (HA.out _ HO.out.d HBS.out).mono ?_; rintro e w3 ⟨rfl, v', hd', hl', hat'⟩; have HD3 := Lib.hid hd'; have HL3 := Lib.hid hl'; have HA3 := Lib.hid hat'; have HR3 := Lib.hid (rk_after_dk HO.out.d HO.out.r hl'); have hx3 := hl'.keep HO.out.d HO.out.x (by decide) (by decide); have ho3 := hl'.keep HO.out.d HO.out.o (by decide) (by decide); have c1' : w3.cell? ⟨b2, 1, none⟩ = some (.pointer (some ⟨gr, 0, none⟩)) := cells_at hx3 1; have o2' : w3.cell? ⟨b3, 2, none⟩ = some (.string tx) := cells_at ho3 2; have HB3 := Lib.hid (Nat.le_trans HBS.out hl'.1.size); clear hd' hl' hat' hx3 ho3 c0 c1 o0 o2 o3) | (go_at_call 56; refine (HA2.out _ HR3.out HB3.out).mono ?_; rintro e w4 ⟨rfl, vr', hap⟩; have HAP := Lib.hid hap; clear hap c1' o2'))
  go_ret
  have h2 := HAP.out.r
  rw [← lay_app _ _ _ (by rw [HLL.out]; exact H4.out.1), ← bytesOf_app] at h2
  have hsz2 := HO.out.b.size
  have hsz3 := HL3.out.1.size
  have hap2 : (T ++ tx).size = T.size + tx.size := ByteArray.size_append
  exact ⟨rfl, OneQ.mk (HO.out.k.then_ (kept_left HL3.out HF.out.1) (fun _ h => .inl h)) (HO.out.b.trans HL3.out.1) (kept_left HAP.out.l HF.out.2) HAP.out.l.1 HF.out.1 HF.out.2 (dk_after_rk HD3.out HR3.out HAP.out.l) h2 (by have := H4.out; omega) (by have := HFT.out; omega) H4.out.2.2.1 H4.out.2.2.2
    (HA3.out.imp id (fun ⟨b, hb, hle⟩ => ⟨b, hb, by omega⟩)) (HAP.out.at_.imp id (fun ⟨b, hb, hle⟩ => ⟨b, hb, by omega⟩))⟩

set_option maxRecDepth 100000 in
set_option maxHeartbeats 1000000 in
theorem one_full (B : Nat) (f : Nat → Prop) (W : World) (g gr : Nat) (v vr : Value) (room : Int) (T : ByteArray) (s : Nat) (hd : Dk W B g v room (s : Int) T) (hr : Rk W B gr vr room (lay (bytesOf T) s)) (h3 : s ≤ T.size) (h4 : (T.size : Int) ≤ room) (h5 : 0 ≤ room) (h6 : room ≤ 1048576) (hfv : ∀ k, foot g v k → f k) (hfr : ∀ k, foot gr vr k → f k) (kd dk nn : Int) (tx : ByteArray) (hkd : kd = 1) (htx : tx.size ≤ 140737488351232) (hfit : ¬ (tx.size : Int) ≤ room - T.size) :
    Calls Try.prog 22 #[.agg #[.pointer (some ⟨g, 0, none⟩), .pointer (some ⟨gr, 0, none⟩)], .agg #[.int .i64 kd, .int .i64 dk, .string tx, .int .i64 nn]] W fun e W' => e = .returned (.bool true) ∧ OneQ B f W g gr W' := by
  have HBW := Lib.hid (Nat.le_trans hd.base (Nat.le_of_lt hd.lt))
  have HD := Lib.hid hd
  have HR := Lib.hid hr
  have HF := Lib.hid (And.intro hfv hfr)
  have HT := Lib.hid (show T.size ≤ 1048576 from by omega)
  have H4 := Lib.hid (show s ≤ T.size ∧ (T.size : Int) ≤ room ∧ 0 ≤ room ∧ room ≤ 1048576 from ⟨h3, h4, h5, h6⟩)
  have hll : (bytesOf T).length = T.size := bytesOf_length T
  have HLL := Lib.hid hll
  have mixed := mixed
  have hk1 : (kd == 1) = true := beq_iff_eq.2 hkd
  clear hkd
  have HA := Lib.hid (fun (W' : World) (h : Dk W' B g v room (s : Int) T) (hw : B ≤ W'.heap.size) => append_dk2 h tx htx h6 h4 hw)
  simp only [hfit, if_false] at HA
  have hf2 : ¬ (tx.size : Int) ≤ room - ((lay (bytesOf T) s).length : Int) := by rw [lay_len, hll]; exact hfit
  have HA2 := Lib.hid (fun (W' : World) (h : Rk W' B gr vr room (lay (bytesOf T) s)) => rapp_full h tx (by rw [lay_len, hll]; omega) ⟨h5, h6⟩ hf2)
  clear htx hfit hf2
  clear hd hr hfv hfr hll h3 h4 h5 h6
  go_enter Try.func22, Try.ntmps22
  go_wp2_with (first | ((with_reducible refine gate_dst (N := 2) rfl ?_); refine box_event rfl (N := 2) rfl (cs := #[.pointer (some ⟨g, 0, none⟩), .pointer (some ⟨gr, 0, none⟩)]) (t := 42) ?hr ?_; (case hr => first | (go_simp; done) | (go_simp; rfl)); intro b2 hg_ w1 hb2 hB1; clear hg_; have HB1 := Lib.hid hB1; have K2 := Lib.hid hb2; clear hb2 hB1) | ((with_reducible refine gate_dst (N := 3) rfl ?_); refine box_event rfl (N := 3) rfl (cs := #[.int .i64 kd, .int .i64 dk, .string tx, .int .i64 nn]) (t := 50) ?hr ?_; (case hr => first | (go_simp; done) | (go_simp; rfl)); intro b3 hg_ w2 hb3 hB2; clear hg_; have hb := HB1.out.trans (hB2.mono HB1.out.size); have hO : On B f W w2 g gr b2 b3 v vr room T s kd dk nn tx := ⟨HD.out.below hb, HR.out.below hb, (hB2.block _ (Array.getElem?_eq_some_iff.1 K2.out).1).trans K2.out, hb3, kept_below hb, hb.mono HBW.out⟩; have HO := Lib.hid hO; have c0 := hO.c0; have c1 := hO.c1; have o0 := hO.o0; have o2 := hO.o2; have o3 := hO.o3; have HBS := Lib.hid (Nat.le_trans HBW.out hb.size); clear hb3 hB2 hb hO) | (go_at_call 31; refine (HA.out _ HO.out.d HBS.out).mono ?_; rintro e w3 ⟨rfl, hd', hl'⟩; have hO3 := HO.out.left HF.out.1 hd' hl'; have HO3 := Lib.hid hO3; have c1' := hO3.c1; have o2' := hO3.o2; have HB3 := Lib.hid (Nat.le_trans HBS.out hl'.1.size); clear hd' hl' hO3 c0 c1 o0 o2 o3) | (go_at_call 56; refine (HA2.out _ HO3.out.r).mono ?_; rintro e w4 ⟨rfl, hb⟩; have HO4 := Lib.hid (HO3.out.below hb HB3.out); clear hb c1' o2'))
  go_ret
  exact ⟨rfl, HO4.out.q HF.out.1 HF.out.2 H4.out.1 H4.out.2.1 H4.out.2.2.1 H4.out.2.2.2⟩

set_option maxRecDepth 100000 in
set_option maxHeartbeats 1000000 in
theorem one_sync (B : Nat) (f : Nat → Prop) (W : World) (g gr : Nat) (v vr : Value) (room : Int) (T : ByteArray) (s : Nat) (hd : Dk W B g v room (s : Int) T) (hr : Rk W B gr vr room (lay (bytesOf T) s)) (h3 : s ≤ T.size) (h4 : (T.size : Int) ≤ room) (h5 : 0 ≤ room) (h6 : room ≤ 1048576) (hfv : ∀ k, foot g v k → f k) (hfr : ∀ k, foot gr vr k → f k) (kd dk nn : Int) (tx : ByteArray) (hkd : kd = 2) :
    Calls Try.prog 22 #[.agg #[.pointer (some ⟨g, 0, none⟩), .pointer (some ⟨gr, 0, none⟩)], .agg #[.int .i64 kd, .int .i64 dk, .string tx, .int .i64 nn]] W fun e W' => e = .returned (.bool true) ∧ OneQ B f W g gr W' := by
  have HBW := Lib.hid (Nat.le_trans hd.base (Nat.le_of_lt hd.lt))
  have HD := Lib.hid hd
  have HR := Lib.hid hr
  have HF := Lib.hid (And.intro hfv hfr)
  have HT := Lib.hid (show T.size ≤ 1048576 from by omega)
  have H4 := Lib.hid (show s ≤ T.size ∧ (T.size : Int) ≤ room ∧ 0 ≤ room ∧ room ≤ 1048576 from ⟨h3, h4, h5, h6⟩)
  have hll : (bytesOf T).length = T.size := bytesOf_length T
  have HLL := Lib.hid hll
  have mixed := mixed
  have hk1 : (kd == 1) = false := beq_eq_false_iff_ne.2 (by omega)
  have hk2 : (kd == 2) = true := beq_iff_eq.2 hkd
  clear hkd
  have HA2 := Lib.hid (fun (W' : World) (h : Rk W' B gr vr room (lay (bytesOf T) s)) => rsync_calls h (by omega) (by omega))
  clear hd hr hfv hfr hll h3 h4 h5 h6
  go_enter Try.func22, Try.ntmps22
  go_wp2_with (first | ((with_reducible refine gate_dst (N := 2) rfl ?_); refine box_event rfl (N := 2) rfl (cs := #[.pointer (some ⟨g, 0, none⟩), .pointer (some ⟨gr, 0, none⟩)]) (t := 42) ?hr ?_; (case hr => first | (go_simp; done) | (go_simp; rfl)); intro b2 hg_ w1 hb2 hB1; clear hg_; have HB1 := Lib.hid hB1; have K2 := Lib.hid hb2; clear hb2 hB1) | ((with_reducible refine gate_dst (N := 3) rfl ?_); refine box_event rfl (N := 3) rfl (cs := #[.int .i64 kd, .int .i64 dk, .string tx, .int .i64 nn]) (t := 50) ?hr ?_; (case hr => first | (go_simp; done) | (go_simp; rfl)); intro b3 hg_ w2 hb3 hB2; clear hg_; have hb := HB1.out.trans (hB2.mono HB1.out.size); have hO : On B f W w2 g gr b2 b3 v vr room T s kd dk nn tx := ⟨HD.out.below hb, HR.out.below hb, (hB2.block _ (Array.getElem?_eq_some_iff.1 K2.out).1).trans K2.out, hb3, kept_below hb, hb.mono HBW.out⟩; have HO := Lib.hid hO; have c0 := hO.c0; have c1 := hO.c1; have o0 := hO.o0; have o2 := hO.o2; have o3 := hO.o3; have HBS := Lib.hid (Nat.le_trans HBW.out hb.size); clear hb3 hB2 hb hO) | (go_at_call 32; refine (sync_dk HO.out.d).mono ?_; rintro e w3 ⟨rfl, hd', hl'⟩; have HD3 := Lib.hid hd'; have HL3 := Lib.hid hl'; have HR3 := Lib.hid (rk_after_dk HO.out.d HO.out.r hl'); have hx3 := hl'.keep HO.out.d HO.out.x (by decide) (by decide); have c1' : w3.cell? ⟨b2, 1, none⟩ = some (.pointer (some ⟨gr, 0, none⟩)) := cells_at hx3 1; clear hd' hl' hx3 c0 c1 o0 o2 o3) | (go_at_call 57; refine (HA2.out _ HR3.out).mono ?_; rintro e w4 ⟨rfl, hr', hl'⟩; have HR4 := Lib.hid hr'; have HL4 := Lib.hid hl'; clear hr' hl' c1'))
  go_ret
  have h2 := HR4.out
  rw [HLL.out] at h2
  exact ⟨rfl, OneQ.mk (HO.out.k.then_ (kept_left HL3.out HF.out.1) (fun _ h => .inl h)) (HO.out.b.trans HL3.out.1) (kept_left HL4.out HF.out.2) HL4.out.1 HF.out.1 HF.out.2 (dk_after_rk HD3.out HR3.out HL4.out) h2 (Nat.le_refl _) H4.out.2.1 H4.out.2.2.1 H4.out.2.2.2 (.inl rfl) (.inl rfl)⟩

set_option maxRecDepth 100000 in
set_option maxHeartbeats 1000000 in
theorem one_bytes (B : Nat) (f : Nat → Prop) (W : World) (g gr : Nat) (v vr : Value) (room : Int) (T : ByteArray) (s : Nat) (hd : Dk W B g v room (s : Int) T) (hr : Rk W B gr vr room (lay (bytesOf T) s)) (h3 : s ≤ T.size) (h4 : (T.size : Int) ≤ room) (h5 : 0 ≤ room) (h6 : room ≤ 1048576) (hfv : ∀ k, foot g v k → f k) (hfr : ∀ k, foot gr vr k → f k) (kd dk nn : Int) (tx : ByteArray) (hkd : kd = 3) :
    Calls Try.prog 22 #[.agg #[.pointer (some ⟨g, 0, none⟩), .pointer (some ⟨gr, 0, none⟩)], .agg #[.int .i64 kd, .int .i64 dk, .string tx, .int .i64 nn]] W fun e W' => e = .returned (.bool true) ∧ OneQ B f W g gr W' := by
  have HBW := Lib.hid (Nat.le_trans hd.base (Nat.le_of_lt hd.lt))
  have HD := Lib.hid hd
  have HR := Lib.hid hr
  have HF := Lib.hid (And.intro hfv hfr)
  have HT := Lib.hid (show T.size ≤ 1048576 from by omega)
  have H4 := Lib.hid (show s ≤ T.size ∧ (T.size : Int) ≤ room ∧ 0 ≤ room ∧ room ≤ 1048576 from ⟨h3, h4, h5, h6⟩)
  have hll : (bytesOf T).length = T.size := bytesOf_length T
  have HLL := Lib.hid hll
  have mixed := mixed
  have hk1 : (kd == 1) = false := beq_eq_false_iff_ne.2 (by omega)
  have hk2 : (kd == 2) = false := beq_eq_false_iff_ne.2 (by omega)
  have hk3 : (kd == 3) = true := beq_iff_eq.2 hkd
  clear hkd
  have HA := Lib.hid (fun (W' : World) (h : Dk W' B g v room (s : Int) T) => bytes_dk h)
  have HA2 := Lib.hid (fun (W' : World) (h : Rk W' B gr vr room (lay (bytesOf T) s)) => rbytes_calls h (by omega) (by omega))
  rw [str_bytes] at HA2
  have hT1 := bytes_same T
  have hT2 := bytes_same2 T
  clear hd hr hfv hfr hll h3 h4 h5 h6
  go_enter Try.func22, Try.ntmps22
  go_wp2_with (first | ((with_reducible refine gate_dst (N := 2) rfl ?_); refine box_event rfl (N := 2) rfl (cs := #[.pointer (some ⟨g, 0, none⟩), .pointer (some ⟨gr, 0, none⟩)]) (t := 42) ?hr ?_; (case hr => first | (go_simp; done) | (go_simp; rfl)); intro b2 hg_ w1 hb2 hB1; clear hg_; have HB1 := Lib.hid hB1; have K2 := Lib.hid hb2; clear hb2 hB1) | ((with_reducible refine gate_dst (N := 3) rfl ?_); refine box_event rfl (N := 3) rfl (cs := #[.int .i64 kd, .int .i64 dk, .string tx, .int .i64 nn]) (t := 50) ?hr ?_; (case hr => first | (go_simp; done) | (go_simp; rfl)); intro b3 hg_ w2 hb3 hB2; clear hg_; have hb := HB1.out.trans (hB2.mono HB1.out.size); have hO : On B f W w2 g gr b2 b3 v vr room T s kd dk nn tx := ⟨HD.out.below hb, HR.out.below hb, (hB2.block _ (Array.getElem?_eq_some_iff.1 K2.out).1).trans K2.out, hb3, kept_below hb, hb.mono HBW.out⟩; have HO := Lib.hid hO; have c0 := hO.c0; have c1 := hO.c1; have o0 := hO.o0; have o2 := hO.o2; have o3 := hO.o3; have HBS := Lib.hid (Nat.le_trans HBW.out hb.size); clear hb3 hB2 hb hO))
  have hOd := HO.out.drew
  have HOD := Lib.hid hOd
  have e0 : w2.drew.cell? ⟨b2, 0, none⟩ = _ := hOd.c0
  have e1 : w2.drew.cell? ⟨b2, 1, none⟩ = _ := hOd.c1
  have e3 : w2.drew.cell? ⟨b3, 3, none⟩ = _ := hOd.o3
  have HBD := Lib.hid (show B ≤ w2.drew.heap.size from HBS.out)
  clear hOd
  go_region_law (go_simp; first | (go_at_call 24; refine (HA.out _ (by exact HOD.out.d)).mono ?_; rintro e w3 ⟨rfl, hd', hl'⟩; have hO3 := HOD.out.left HF.out.1 hd' hl'; have HO3 := Lib.hid hO3; have c1' := hO3.c1; have o3' := hO3.o3; have HB3 := Lib.hid (Nat.le_trans HBD.out hl'.1.size); clear hd' hl' hO3) | (go_at_call 25; refine (HA2.out _ (by exact HO3.out.r)).mono ?_; rintro e w4 ⟨rfl, hb⟩; have HO4 := Lib.hid (HO3.out.below hb HB3.out); clear hb))
  all_goals
    go_wp2
    go_ret
    exact ⟨by first | rfl | (simp [Act.put]; done) | (simp [Act.put, bytes_same]; done), HO4.out.q HF.out.1 HF.out.2 H4.out.1 H4.out.2.1 H4.out.2.2.1 H4.out.2.2.2⟩

set_option maxRecDepth 100000 in
set_option maxHeartbeats 1000000 in
theorem one_cut (B : Nat) (f : Nat → Prop) (W : World) (g gr : Nat) (v vr : Value) (room : Int) (T : ByteArray) (s : Nat) (hd : Dk W B g v room (s : Int) T) (hr : Rk W B gr vr room (lay (bytesOf T) s)) (h3 : s ≤ T.size) (h4 : (T.size : Int) ≤ room) (h5 : 0 ≤ room) (h6 : room ≤ 1048576) (hfv : ∀ k, foot g v k → f k) (hfr : ∀ k, foot gr vr k → f k) (kd dk nn : Int) (tx : ByteArray) (hkd : kd = 5) (hnn : -9223372036854775808 ≤ nn ∧ nn ≤ 9223372036854775807) :
    Calls Try.prog 22 #[.agg #[.pointer (some ⟨g, 0, none⟩), .pointer (some ⟨gr, 0, none⟩)], .agg #[.int .i64 kd, .int .i64 dk, .string tx, .int .i64 nn]] W fun e W' => e = .returned (.bool true) ∧ OneQ B f W g gr W' := by
  have HBW := Lib.hid (Nat.le_trans hd.base (Nat.le_of_lt hd.lt))
  have HD := Lib.hid hd
  have HR := Lib.hid hr
  have HF := Lib.hid (And.intro hfv hfr)
  have HT := Lib.hid (show T.size ≤ 1048576 from by omega)
  have H4 := Lib.hid (show s ≤ T.size ∧ (T.size : Int) ≤ room ∧ 0 ≤ room ∧ room ≤ 1048576 from ⟨h3, h4, h5, h6⟩)
  have hll : (bytesOf T).length = T.size := bytesOf_length T
  have HLL := Lib.hid hll
  have mixed := mixed
  have hk1 : (kd == 1) = false := beq_eq_false_iff_ne.2 (by omega)
  have hk2 : (kd == 2) = false := beq_eq_false_iff_ne.2 (by omega)
  have hk3 : (kd == 3) = false := beq_eq_false_iff_ne.2 (by omega)
  have hk4 : (kd == 4) = false := beq_eq_false_iff_ne.2 (by omega)
  have hk5 : (kd == 5) = true := beq_iff_eq.2 hkd
  clear hkd
  have HA := Lib.hid (fun (W' : World) (h : Dk W' B g v room (s : Int) T) => cut_ex h nn h3 (by omega))
  have HA2 := Lib.hid (fun (W' : World) (h : Rk W' B gr vr room (lay (bytesOf T) s)) => rcut_calls h nn (by omega) (by omega) hnn)
  rw [cut_same T s nn h3] at HA2
  generalize ex T (cutN T (s : Int) nn).toNat = X at HA HA2
  have hT1 := bytes_same X
  have hT2 := bytes_same2 X
  clear hnn
  clear hd hr hfv hfr hll h3 h4 h5 h6
  go_enter Try.func22, Try.ntmps22
  go_wp2_with (first | ((with_reducible refine gate_dst (N := 2) rfl ?_); refine box_event rfl (N := 2) rfl (cs := #[.pointer (some ⟨g, 0, none⟩), .pointer (some ⟨gr, 0, none⟩)]) (t := 42) ?hr ?_; (case hr => first | (go_simp; done) | (go_simp; rfl)); intro b2 hg_ w1 hb2 hB1; clear hg_; have HB1 := Lib.hid hB1; have K2 := Lib.hid hb2; clear hb2 hB1) | ((with_reducible refine gate_dst (N := 3) rfl ?_); refine box_event rfl (N := 3) rfl (cs := #[.int .i64 kd, .int .i64 dk, .string tx, .int .i64 nn]) (t := 50) ?hr ?_; (case hr => first | (go_simp; done) | (go_simp; rfl)); intro b3 hg_ w2 hb3 hB2; clear hg_; have hb := HB1.out.trans (hB2.mono HB1.out.size); have hO : On B f W w2 g gr b2 b3 v vr room T s kd dk nn tx := ⟨HD.out.below hb, HR.out.below hb, (hB2.block _ (Array.getElem?_eq_some_iff.1 K2.out).1).trans K2.out, hb3, kept_below hb, hb.mono HBW.out⟩; have HO := Lib.hid hO; have c0 := hO.c0; have c1 := hO.c1; have o0 := hO.o0; have o2 := hO.o2; have o3 := hO.o3; have HBS := Lib.hid (Nat.le_trans HBW.out hb.size); clear hb3 hB2 hb hO))
  have hOd := HO.out.drew
  have HOD := Lib.hid hOd
  have e0 : w2.drew.cell? ⟨b2, 0, none⟩ = _ := hOd.c0
  have e1 : w2.drew.cell? ⟨b2, 1, none⟩ = _ := hOd.c1
  have e3 : w2.drew.cell? ⟨b3, 3, none⟩ = _ := hOd.o3
  have HBD := Lib.hid (show B ≤ w2.drew.heap.size from HBS.out)
  clear hOd
  go_region_law (go_simp; first | (go_at_call 28; refine (HA.out _ (by exact HOD.out.d)).mono ?_; rintro e w3 ⟨rfl, hd', hl'⟩; have hO3 := HOD.out.left HF.out.1 hd' hl'; have HO3 := Lib.hid hO3; have c1' := hO3.c1; have o3' := hO3.o3; have HB3 := Lib.hid (Nat.le_trans HBD.out hl'.1.size); clear hd' hl' hO3) | (go_at_call 29; refine (HA2.out _ (by exact HO3.out.r)).mono ?_; rintro e w4 ⟨rfl, hb⟩; have HO4 := Lib.hid (HO3.out.below hb HB3.out); clear hb))
  all_goals
    go_wp2
    go_ret
    exact ⟨by first | rfl | (simp [Act.put]; done) | (simp [Act.put, bytes_same]; done), HO4.out.q HF.out.1 HF.out.2 H4.out.1 H4.out.2.1 H4.out.2.2.1 H4.out.2.2.2⟩

set_option maxRecDepth 100000 in
set_option maxHeartbeats 1000000 in
theorem one_safe (B : Nat) (f : Nat → Prop) (W : World) (g gr : Nat) (v vr : Value) (room : Int) (T : ByteArray) (s : Nat) (hd : Dk W B g v room (s : Int) T) (hr : Rk W B gr vr room (lay (bytesOf T) s)) (h3 : s ≤ T.size) (h4 : (T.size : Int) ≤ room) (h5 : 0 ≤ room) (h6 : room ≤ 1048576) (hfv : ∀ k, foot g v k → f k) (hfr : ∀ k, foot gr vr k → f k) (kd dk nn : Int) (tx : ByteArray) (hkd : kd = 4) :
    Calls Try.prog 22 #[.agg #[.pointer (some ⟨g, 0, none⟩), .pointer (some ⟨gr, 0, none⟩)], .agg #[.int .i64 kd, .int .i64 dk, .string tx, .int .i64 nn]] W fun e W' => e = .returned (.bool true) ∧ OneQ B f W g gr W' := by
  have HBW := Lib.hid (Nat.le_trans hd.base (Nat.le_of_lt hd.lt))
  have HD := Lib.hid hd
  have HR := Lib.hid hr
  have HF := Lib.hid (And.intro hfv hfr)
  have HT := Lib.hid (show T.size ≤ 1048576 from by omega)
  have H4 := Lib.hid (show s ≤ T.size ∧ (T.size : Int) ≤ room ∧ 0 ≤ room ∧ room ≤ 1048576 from ⟨h3, h4, h5, h6⟩)
  have hll : (bytesOf T).length = T.size := bytesOf_length T
  have HLL := Lib.hid hll
  have mixed := mixed
  have hk1 : (kd == 1) = false := beq_eq_false_iff_ne.2 (by omega)
  have hk2 : (kd == 2) = false := beq_eq_false_iff_ne.2 (by omega)
  have hk3 : (kd == 3) = false := beq_eq_false_iff_ne.2 (by omega)
  have hk4 : (kd == 4) = true := beq_iff_eq.2 hkd
  clear hkd
  have HA2 := Lib.hid (fun (W' : World) (h : Rk W' B gr vr room (lay (bytesOf T) s)) => rsafe_calls h (by omega) (by omega))
  clear hd hr hfv hfr hll h3 h4 h5 h6
  go_enter Try.func22, Try.ntmps22
  go_wp2_with (first | ((with_reducible refine gate_dst (N := 2) rfl ?_); refine box_event rfl (N := 2) rfl (cs := #[.pointer (some ⟨g, 0, none⟩), .pointer (some ⟨gr, 0, none⟩)]) (t := 42) ?hr ?_; (case hr => first | (go_simp; done) | (go_simp; rfl)); intro b2 hg_ w1 hb2 hB1; clear hg_; have HB1 := Lib.hid hB1; have K2 := Lib.hid hb2; clear hb2 hB1) | ((with_reducible refine gate_dst (N := 3) rfl ?_); refine box_event rfl (N := 3) rfl (cs := #[.int .i64 kd, .int .i64 dk, .string tx, .int .i64 nn]) (t := 50) ?hr ?_; (case hr => first | (go_simp; done) | (go_simp; rfl)); intro b3 hg_ w2 hb3 hB2; clear hg_; have hb := HB1.out.trans (hB2.mono HB1.out.size); have hO : On B f W w2 g gr b2 b3 v vr room T s kd dk nn tx := ⟨HD.out.below hb, HR.out.below hb, (hB2.block _ (Array.getElem?_eq_some_iff.1 K2.out).1).trans K2.out, hb3, kept_below hb, hb.mono HBW.out⟩; have HO := Lib.hid hO; have c0 := hO.c0; have c1 := hO.c1; have o0 := hO.o0; have o2 := hO.o2; have o3 := hO.o3; have HBS := Lib.hid (Nat.le_trans HBW.out hb.size); clear hb3 hB2 hb hO))
  go_quiet ((first | (go_at_call 26; exact Calls.quiet_of_same (safe_dk (HO.out.d.move (fun _ _ _ => rfl)))) | (go_at_call 27; exact Calls.quiet_of_same (HA2.out _ (HO.out.r.move (fun _ _ _ => rfl))))))
  go_wp2
  go_ret
  exact ⟨by simp, (HO.out.below (drewN_below w2 _ _) HBS.out).q HF.out.1 HF.out.2 H4.out.1 H4.out.2.1 H4.out.2.2.1 H4.out.2.2.2⟩

set_option maxRecDepth 100000 in
set_option maxHeartbeats 1000000 in
theorem one_else (B : Nat) (f : Nat → Prop) (W : World) (g gr : Nat) (v vr : Value) (room : Int) (T : ByteArray) (s : Nat) (hd : Dk W B g v room (s : Int) T) (hr : Rk W B gr vr room (lay (bytesOf T) s)) (h3 : s ≤ T.size) (h4 : (T.size : Int) ≤ room) (h5 : 0 ≤ room) (h6 : room ≤ 1048576) (hfv : ∀ k, foot g v k → f k) (hfr : ∀ k, foot gr vr k → f k) (kd dk nn : Int) (tx : ByteArray) (h1 : kd ≠ 1) (h2 : kd ≠ 2) (h7 : kd ≠ 3) (h8 : kd ≠ 4) (h9 : kd ≠ 5) :
    Calls Try.prog 22 #[.agg #[.pointer (some ⟨g, 0, none⟩), .pointer (some ⟨gr, 0, none⟩)], .agg #[.int .i64 kd, .int .i64 dk, .string tx, .int .i64 nn]] W fun e W' => e = .returned (.bool true) ∧ OneQ B f W g gr W' := by
  have HBW := Lib.hid (Nat.le_trans hd.base (Nat.le_of_lt hd.lt))
  have HD := Lib.hid hd
  have HR := Lib.hid hr
  have HF := Lib.hid (And.intro hfv hfr)
  have HT := Lib.hid (show T.size ≤ 1048576 from by omega)
  have H4 := Lib.hid (show s ≤ T.size ∧ (T.size : Int) ≤ room ∧ 0 ≤ room ∧ room ≤ 1048576 from ⟨h3, h4, h5, h6⟩)
  have hll : (bytesOf T).length = T.size := bytesOf_length T
  have HLL := Lib.hid hll
  have mixed := mixed
  have hk1 : (kd == 1) = false := beq_eq_false_iff_ne.2 h1
  have hk2 : (kd == 2) = false := beq_eq_false_iff_ne.2 h2
  have hk3 : (kd == 3) = false := beq_eq_false_iff_ne.2 h7
  have hk4 : (kd == 4) = false := beq_eq_false_iff_ne.2 h8
  have hk5 : (kd == 5) = false := beq_eq_false_iff_ne.2 h9
  clear h1 h2 h7 h8 h9
  clear hd hr hfv hfr hll h3 h4 h5 h6
  go_enter Try.func22, Try.ntmps22
  go_wp2_with (first | ((with_reducible refine gate_dst (N := 2) rfl ?_); refine box_event rfl (N := 2) rfl (cs := #[.pointer (some ⟨g, 0, none⟩), .pointer (some ⟨gr, 0, none⟩)]) (t := 42) ?hr ?_; (case hr => first | (go_simp; done) | (go_simp; rfl)); intro b2 hg_ w1 hb2 hB1; clear hg_; have HB1 := Lib.hid hB1; have K2 := Lib.hid hb2; clear hb2 hB1) | ((with_reducible refine gate_dst (N := 3) rfl ?_); refine box_event rfl (N := 3) rfl (cs := #[.int .i64 kd, .int .i64 dk, .string tx, .int .i64 nn]) (t := 50) ?hr ?_; (case hr => first | (go_simp; done) | (go_simp; rfl)); intro b3 hg_ w2 hb3 hB2; clear hg_; have hb := HB1.out.trans (hB2.mono HB1.out.size); have hO : On B f W w2 g gr b2 b3 v vr room T s kd dk nn tx := ⟨HD.out.below hb, HR.out.below hb, (hB2.block _ (Array.getElem?_eq_some_iff.1 K2.out).1).trans K2.out, hb3, kept_below hb, hb.mono HBW.out⟩; have HO := Lib.hid hO; have c0 := hO.c0; have c1 := hO.c1; have o0 := hO.o0; have o2 := hO.o2; have o3 := hO.o3; have HBS := Lib.hid (Nat.le_trans HBW.out hb.size); clear hb3 hB2 hb hO))
  go_ret
  exact ⟨rfl, HO.out.q HF.out.1 HF.out.2 H4.out.1 H4.out.2.1 H4.out.2.2.1 H4.out.2.2.2⟩

theorem one_calls (B : Nat) (f : Nat → Prop) (W : World) (g gr : Nat) (h : Pr B f W g gr) (kd dk nn : Int) (tx : ByteArray) (htx : tx.size ≤ 140737488351232) (hnn : -9223372036854775808 ≤ nn ∧ nn ≤ 9223372036854775807) :
    Calls Try.prog 22 #[.agg #[.pointer (some ⟨g, 0, none⟩), .pointer (some ⟨gr, 0, none⟩)], .agg #[.int .i64 kd, .int .i64 dk, .string tx, .int .i64 nn]] W fun e W' => e = .returned (.bool true) ∧ OneQ B f W g gr W' := by
  obtain ⟨v, vr, room, T, s, hd, hr, h3, h4, h5, h6, hfv, hfr, _⟩ := h
  by_cases k1 : kd = 1
  · by_cases hfit : (tx.size : Int) ≤ room - T.size
    · exact one_fits B f W g gr v vr room T s hd hr h3 h4 h5 h6 hfv hfr kd dk nn tx k1 htx hfit
    · exact one_full B f W g gr v vr room T s hd hr h3 h4 h5 h6 hfv hfr kd dk nn tx k1 htx hfit
  by_cases k2 : kd = 2
  · exact one_sync B f W g gr v vr room T s hd hr h3 h4 h5 h6 hfv hfr kd dk nn tx k2
  by_cases k3 : kd = 3
  · exact one_bytes B f W g gr v vr room T s hd hr h3 h4 h5 h6 hfv hfr kd dk nn tx k3
  by_cases k4 : kd = 4
  · exact one_safe B f W g gr v vr room T s hd hr h3 h4 h5 h6 hfv hfr kd dk nn tx k4
  by_cases k5 : kd = 5
  · exact one_cut B f W g gr v vr room T s hd hr h3 h4 h5 h6 hfv hfr kd dk nn tx k5 hnn
  exact one_else B f W g gr v vr room T s hd hr h3 h4 h5 h6 hfv hfr kd dk nn tx k1 k2 k3 k4 k5
end Go.Proofs.Ytcoodlncjnekoaa.E
