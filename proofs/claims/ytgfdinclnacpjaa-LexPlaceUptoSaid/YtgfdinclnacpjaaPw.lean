/- lex.Place: what it computes. Conditions: the text's size is at most 1048576; the number is one of 64 bits. -/
import Derived.Test.YtgfdinclnacpjaaPp
import Derived.Test.YtgfdinclnacpjaaSh
import Derived.Lib.OthersKept
import Derived.Shelf.RegionOpenPlain
namespace Go.Proofs.Ytgfdinclnacpjaa.F
open Go.RowKit Go.Lib Go.Proofs.YtgfdinclnacpjaaW.PrintWords
set_option linter.unusedVariables false
theorem iterPos_of {w : World} {k : Nat} {s : ByteArray} {p : Nat} (h : w.heap[k]? = some (.stringIter s p)) : w.iterPos k = p := by simp [World.iterPos, h]
set_option maxHeartbeats 1000000 in
set_option maxRecDepth 100000 in
theorem place_none (s : ByteArray) (q : Int) (w : World) (h : q < 0 ∨ (s.size : Int) < q) :
    Calls Try.prog 4 #[.string s, .int .i64 q] w fun e w' => e = .returned (.tuple #[.int .i64 0, .int .i64 0]) ∧ Below w.heap.size w w' := by
  by_cases c : q < 0
  · have c1 := decide_eq_true c
    clear h
    go_enter Try.func4, Try.ntmps4
    go_wp2_with fail
    go_ret2
    exact ⟨rfl, Below.refl _ _⟩
  · have c1 := decide_eq_false c
    have c2 : (s.size : Int) < q := by omega
    have c3 := decide_eq_true c2
    clear h
    go_enter Try.func4, Try.ntmps4
    go_wp2_with fail
    go_ret2
    exact ⟨rfl, Below.refl _ _⟩
set_option maxHeartbeats 1000000 in
set_option maxRecDepth 100000 in
theorem place_calls (s : ByteArray) (n : Nat) (w : World) (hs : s.size ≤ 1048576) (hn : n ≤ s.size) :
    Calls Try.prog 4 #[.string s, .int .i64 (n : Nat)] w fun e w' => e = .returned (.tuple #[.int .i64 ((placeN s n).1 : Int), .int .i64 ((placeN s n).2 : Int)]) ∧ Below w.heap.size w w' := by
  obtain ⟨_, hlb, hfn⟩ := place_eq s n hn
  have hx : (s.extract 0 n).size = n := by rw [ByteArray.size_extract]; omega
  have hcb : Lib.countByte (s.extract 0 n).data.toList 10 ≤ n := by
    unfold Lib.countByte
    refine Nat.le_trans List.count_le_length ?_
    rw [Array.length_toList]
    show (s.extract 0 n).size ≤ n
    omega
  have CC := Lib.hid (fun W => Try.strings_Count_one (s.extract 0 n) 10 W)
  have CL := Lib.hid (fun W => Try.strings_LastIndexByte (s.extract 0 n) 10 (by omega) W)
  obtain ⟨C, hC⟩ : ∃ C, C = Lib.countByte (s.extract 0 n).data.toList 10 := ⟨_, rfl⟩
  obtain ⟨LB, hLB⟩ : ∃ LB, LB = Lib.lastIndexByte (s.extract 0 n) 10 := ⟨_, rfl⟩
  obtain ⟨f, hf⟩ : ∃ f, f = fromP s n := ⟨_, rfl⟩
  rw [← hC] at CC hcb
  rw [← hLB] at CL hlb
  rw [← hf] at hlb hfn
  have hline : lineP s n = 1 + C := by unfold lineP; rw [hC]
  obtain ⟨t, ht⟩ : ∃ t, t = s.extract f s.size := ⟨_, rfl⟩
  have htp : tailP s n = t := by unfold tailP; rw [← hf, ht]
  have hts : t.size = s.size - f := by rw [ht, tail_size]
  have u1 : wrap64 (1 + (C : Int)) = ((1 + C : Nat) : Int) := by unfold wrap64; omega
  have u2 : wrap64 (1 + LB) = (f : Int) := by unfold wrap64; omega
  have n1 : (n : Int).toNat = n := rfl
  have f1 : (f : Int).toNat = f := rfl
  have k0 : ¬ (n : Int) < 0 := by omega
  have k1 : ¬ (s.size : Int) < (n : Int) := by omega
  have k2 : (0 : Int) ≤ (n : Int) := by omega
  have k3 : (n : Int) ≤ (s.size : Int) := by omega
  have k4 : (f : Int) ≤ (s.size : Int) := by omega
  have k5 : (0 : Int) ≤ (f : Int) := by omega
  have HF := Lib.hid hfn
  have HFP := Lib.hid hf
  have HS := Lib.hid hs
  have HC := Lib.hid hcb
  have HL := Lib.hid hline
  have HT := Lib.hid htp
  have HTS := Lib.hid hts
  have HTT := Lib.hid ht
  clear hlb hx hC hLB hf hline hcb htp hts
  by_cases c : n = s.size
  · have e : placeN s n = (1 + C, 1 + runesP t) := by unfold placeN; rw [if_pos c, HL.out, HT.out]
    have c1 : ((n : Int) == (s.size : Int)) = true := beq_iff_eq.2 (by omega)
    rw [e]
    have HE := Lib.hid e
    have hxs : s.extract 0 n = s := by
      apply ByteArray.ext
      apply Array.ext'
      rw [ext_list, List.drop_zero, List.take_of_length_le (by rw [Array.length_toList]; show s.size ≤ n; omega)]
    rw [hxs] at CC CL
    clear e hn hs hfn ht hxs
    go_enter Try.func4, Try.ntmps4
    go_wp2_with fail
    refine (CC.out _).mono ?_
    rintro e w1 ⟨rfl, rfl⟩
    go_wp2_with fail
    refine (CL.out _).mono ?_
    rintro e w1 ⟨rfl, rfl⟩
    go_upto_region 6 with fail
    have hR : runesP t ≤ 1048576 := by
      have h1 := size_runesFrom t t.size 0 #[]
      have h2 := HTS.out
      have h3 := HS.out
      unfold runesP
      have h4 : (#[] : Array Value).size = 0 := rfl
      omega
    obtain ⟨R, hRR⟩ : ∃ R, R = runesP t := ⟨_, rfl⟩
    rw [← hRR] at hR
    have hxt : s.extract f s.size = t := HTT.out.symm
    obtain ⟨cf, fo, hconv⟩ : ∃ (cf : World → Nat) (fo : World → Obj), ∀ W : World, (convert 9 27 (.string t)).run Try.prog W = .ok (.slice (some ⟨W.heap.size, 0, none⟩) R (cf W)) (W.drew.alloc (fo W)) := by
      refine ⟨fun W => grownCap W R 0 21, fun W => .cells (Conv.runesFrom t t.size 0 #[] ++ Array.replicate (grownCap W R 0 21 - R) (.int .i32 0)) 21, fun W => ?_⟩
      rw [hRR]
      exact run_runes_of_string W 9 27 21 t Try.underlying9 Try.underlying27 Try.underlying21 (by unfold runesP at hRR; omega)
    have hw3 : IntKind.i64.wrap (1 + (R : Int)) = ((1 + R : Nat) : Int) := by rw [IntKind.wrap_i64]; omega
    have hw4 : wrap64 (1 + (R : Int)) = ((1 + R : Nat) : Int) := by unfold wrap64; omega
    have hS : Below w1.heap.size w1 w1 := Below.refl _ _
    have HRR := Lib.hid hRR
    have k6 : f ≤ s.size := by have := HF.out; omega
    have k7 : (f : Int) ≤ (s.size : Int) := by omega
    have k8 : (f : Int) ≤ (n : Int) := by have := HF.out; omega
    clear hRR hR CC CL c1 k0 k1 k2 k3 n1
    have mixed : Try.prog.follows Departure.mixedOrders = true := by kernel_rfl
    clear hS
    go_region_o
    go_wp2_with fail
    go_ret2
    refine ⟨?_, by repeat (first | exact Below.refl _ _ | (refine below_alloc ?_ _) | (refine Below.drew ?_))⟩
    rw [← HRR.out]
    simp
  · have e : placeN s n = (1 + C, colN t (n - f) t.size 0 0) := by unfold placeN; rw [if_neg c, HL.out, HT.out, ← HFP.out]
    have c1 : ((n : Int) == (s.size : Int)) = false := beq_eq_false_iff_ne.2 (by omega)
    rw [e]
    have HE := Lib.hid e
    clear e hs ht
    have k6 : f ≤ s.size := by omega
    have hxt : s.extract f s.size = t := HTT.out.symm
    go_enter Try.func4, Try.ntmps4
    go_wp2_with fail
    refine (CC.out _).mono ?_
    rintro e w1 ⟨rfl, rfl⟩
    go_wp2_with fail
    refine (CL.out _).mono ?_
    rintro e w1 ⟨rfl, rfl⟩
    go_wp2_with fail
    simp only [u2]
    have HU := Lib.hid u2
    clear u1 u2 CC CL k0 k1 k2 k3 k4 k5 k6 hxt c1
    go_loopw [8] (fun v wr => ∃ (pos fuel col : Nat), v = .int .i64 (col : Nat) ∧ wr.heap[w1.heap.size]? = some (.stringIter t pos) ∧ Below w1.heap.size w1 wr ∧ RowKit.Hid (colN t (n - f) fuel pos col = colN t (n - f) t.size 0 0) ∧ t.size ≤ pos + fuel ∧ col ≤ pos) (fun _ wr => t.size - wr.iterPos w1.heap.size)
    case atStart => exact ⟨0, t.size, 0, rfl, World.iter_heap w1 t 0, (Below.refl _ _).alloc (Nat.le_refl _) _, Lib.hid rfl, by omega, Nat.le_refl _⟩
    case round =>
      obtain ⟨pos, fuel, col, rfl, hit, hbw, HO, hfu, hcp⟩ := hrel
      have hpos0 := iterPos_of hit
      by_cases hp : pos < t.size
      · have hnx : ∀ ty, (Instr.next (.pointer (some ⟨w1.heap.size, 0, none⟩)) true ty).run Try.prog wr = _ := fun ty => Lib.run_next_any_at wr w1.heap.size t pos ty hit hp
        have hwd := Lib.decode_width_pos t pos hp
        obtain ⟨fuel, rfl⟩ : ∃ f', fuel = f' + 1 := ⟨fuel - 1, by omega⟩
        have hit2 := Lib.iterAt_heap wr w1.heap.size t pos (pos + (Utf8.decode t pos).2) hit
        have hbw2 := Lib.below_iterAt hbw (k := w1.heap.size) (Nat.le_refl _) t (pos + (Utf8.decode t pos).2)
        obtain ⟨W1, hW1⟩ : ∃ W1, W1 = wr.iterAt w1.heap.size t (pos + (Utf8.decode t pos).2) := ⟨_, rfl⟩
        rw [← hW1] at hnx hit2 hbw2
        obtain ⟨R, hR⟩ : ∃ R, R = (Utf8.decode t pos).1 := ⟨_, rfl⟩
        rw [← hR] at hnx
        have hok : colN t (n - f) (fuel + 1) pos col = if n - f < pos then col else colN t (n - f) fuel (pos + (Utf8.decode t pos).2) (col + 1) := by
          show (if pos < t.size then (if n - f < pos then col else colN t (n - f) fuel (pos + wd t pos) (col + 1)) else col) = _
          rw [if_pos hp]
          rfl
        have hts := HTS.out
        have hsz := HS.out
        have hff := HF.out
        have hbd : f + pos ≤ 1000000000 := by omega
        have hbc : col + 1 ≤ 1000000000 := by omega
        have HIT := Lib.hid hit2
        have HBW := Lib.hid hbw2
        have HN := Lib.hid (And.intro hwd (And.intro hp (And.intro hfu (And.intro hpos0 hcp))))
        have HOK := Lib.hid hok
        by_cases c3 : n - f < pos
        · have c3' : (n : Int) < ((f + pos : Nat) : Int) := by omega
          have c4 := decide_eq_true c3'
          have e : colN t (n - f) t.size 0 0 = col := by rw [← HO.out, hok, if_pos c3]
          have HE2 := Lib.hid e
          have hw := wr_add f pos hbd
          clear hW1 hit hbw hok hR hwd hp hfu hcp hit2 hbw2 e c3 hts hsz hff hpos0 hbd hbc
          go_wp2_with fail
          clear hw
          go_ret2
          refine ⟨?_, HBW.out⟩
          rw [HE2.out]
          simp
        · have c3' : ¬ (n : Int) < ((f + pos : Nat) : Int) := by omega
          have c4 := decide_eq_false c3'
          have HE2 := Lib.hid (show colN t (n - f) fuel (pos + (Utf8.decode t pos).2) (col + 1) = colN t (n - f) t.size 0 0 by rw [← HO.out, hok, if_neg c3])
          have hwc := Lib.hid (wr_add col 1 hbc)
          have hw := wr_add f pos hbd
          clear hW1 hit hbw hok hR hwd hp hfu hcp hit2 hbw2 c3 hts hsz hff hpos0 hbd hbc
          go_wp2_with fail
          clear hw
          go_roundw
          case rel => exact ⟨_, fuel, col + 1, by rw [← hwc.out]; rfl, HIT.out, HBW.out, HE2, by have := HN.out; omega, by have := HN.out; omega⟩
          case measure => rw [iterPos_of HIT.out, HN.out.2.2.2.1]; have := HN.out; omega
      · have hnx : ∀ ty, (Instr.next (.pointer (some ⟨w1.heap.size, 0, none⟩)) true ty).run Try.prog wr = _ := fun ty => Lib.run_next_end_at wr w1.heap.size t pos ty hit hp
        have e : colN t (n - f) t.size 0 0 = col := by
          rw [← HO.out]
          cases fuel with
          | zero => rfl
          | succ fuel => show (if pos < t.size then _ else col) = _; rw [if_neg hp]
        have HE2 := Lib.hid e
        have HBW := Lib.hid hbw
        clear e hbw hfu hcp
        go_wp2_with fail
        go_ret2
        refine ⟨?_, HBW.out⟩
        rw [HE2.out]
        simp
end Go.Proofs.Ytgfdinclnacpjaa.F
