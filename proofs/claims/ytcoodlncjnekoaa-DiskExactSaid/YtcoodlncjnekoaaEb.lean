/- The document's disk: its block and its row of bytes; what its functions do. Conditions: each theorem's own. -/
import Derived.Test.YtcoodlncjnekoaaEa
import Derived.Test.YtcoodlncjnekoaaKp
import Derived.Test.YtcoodlncjnekoaaWMap
import Derived.Deep.RegionLaw
namespace Go.Proofs.Ytcoodlncjnekoaa.E
open Go.RowKit Go.Proofs.YtcoodlncjnekoaaW.PrintWords Go.Proofs.Ytcoodlncjnekoaa.D
set_option linter.unusedVariables false
set_option linter.unusedSimpArgs false
def bcel : List (Int × Bool) → List Value
  | [] => []
  | p :: l => .int .u8 p.1 :: .bool p.2 :: bcel l
theorem bcel_app (a b : List (Int × Bool)) : bcel (a ++ b) = bcel a ++ bcel b := by
  induction a with
  | nil => rfl
  | cons p l ih => simp [bcel, ih]
theorem bcel_len (l : List (Int × Bool)) : (bcel l).length = 2 * l.length := by
  induction l with
  | nil => rfl
  | cons p l ih => simp [bcel, ih]; omega
theorem bcel_get (l : List (Int × Bool)) (i : Nat) (p : Int × Bool) (h : l[i]? = some p) : (bcel l)[2 * i]? = some (.int .u8 p.1) ∧ (bcel l)[2 * i + 1]? = some (.bool p.2) := by
  induction l generalizing i with
  | nil => simp at h
  | cons q l ih => cases i with
    | zero => simp at h; subst h; exact ⟨rfl, rfl⟩
    | succ i =>
      have := ih i (by simpa using h)
      exact ⟨by rw [show 2 * (i + 1) = 2 * i + 2 from by omega]; simpa [bcel] using this.1, by rw [show 2 * (i + 1) + 1 = 2 * i + 1 + 2 from by omega]; simpa [bcel] using this.2⟩
theorem bcel_set (l : List (Int × Bool)) (i : Nat) (b : Int) (c : Bool) (h : l[i]? = some (b, c)) : (bcel l).set (2 * i + 1) (.bool true) = bcel (l.set i (b, true)) := by
  induction l generalizing i with
  | nil => simp at h
  | cons q l ih => cases i with
    | zero => simp at h; subst h; rfl
    | succ i =>
      have := ih i (by simpa using h)
      rw [show 2 * (i + 1) + 1 = 2 * i + 1 + 2 from by omega]
      simp [bcel, this]
/-- The document's disk: block g holds its room and its row v. -/
structure Rk (w : World) (B g : Nat) (v : Value) (room : Int) (bs : List (Int × Bool)) : Prop where
  base : B ≤ g
  blk : w.heap[g]? = some (.cells #[.int .i64 room, v] 108 (0, 0))
  own : w.ownsRow B 110 2 v bs.length (bcel bs)
theorem Rk.lt {w : World} {B g : Nat} {v : Value} {room : Int} {bs : List (Int × Bool)} (h : Rk w B g v room bs) : g < w.heap.size := (Array.getElem?_eq_some_iff.1 h.blk).1
theorem Rk.move {w w' : World} {B g : Nat} {v : Value} {room : Int} {bs : List (Int × Bool)} (h : Rk w B g v room bs) (hm : ∀ i, i < w.heap.size → foot g v i → w'.heap[i]? = w.heap[i]?) : Rk w' B g v room bs :=
  ⟨h.base, (hm g h.lt (.inl rfl)).trans h.blk, own_move h.own (fun k hk => hm k (own_lt h.own k hk) (.inr hk))⟩
theorem Rk.below {w w' : World} {B g : Nat} {v : Value} {room : Int} {bs : List (Int × Bool)} (h : Rk w B g v room bs) (hb : Below w.heap.size w w') : Rk w' B g v room bs := h.move (fun i hi _ => hb.block i hi)
theorem Rk.lower {w : World} {B B' g : Nat} {v : Value} {room : Int} {bs : List (Int × Bool)} (h : Rk w B g v room bs) (hb : B' ≤ B) : Rk w B' g v room bs := ⟨Nat.le_trans hb h.base, h.blk, own_less h.own hb⟩
theorem row2_cell {w : World} {base n c : Nat} {A : Option Addr} {bs : List (Int × Bool)} (h : w.ownsRow base 110 2 (.slice A n c) n (bcel bs)) (i : Nat) (x : Int) (y : Bool) (hp : bs[i]? = some (x, y)) : ∃ b, A = some ⟨b, 0, none⟩ ∧ w.cell? ⟨b, i * 2, none⟩ = some (.int .u8 x) ∧ w.cell? ⟨b, i * 2 + 1, none⟩ = some (.bool y) ∧ w.frozen? ⟨b, i * 2 + 1, none⟩ = false := by
  have hi := (List.getElem?_eq_some_iff.1 hp).1
  have hl : bs.length = n := by have := h.1; rw [bcel_len] at this; omega
  rcases h.2 with ⟨he, h1⟩ | ⟨g', cap', cur, he, hb, hh, _⟩
  · injection he with _ h2
    omega
  · injection he with h1 h2 h3
    subst h1
    refine ⟨g', rfl, ?_⟩
    have hg := bcel_get bs i (x, y) hp
    have c0 := h.cells (g := g') rfl (2 * i) _ hg.1
    have c1 := h.cells (g := g') rfl (2 * i + 1) _ hg.2
    rw [add_plain] at c0 c1
    rw [show i * 2 = 2 * i from Nat.mul_comm _ _]
    exact ⟨c0, c1, fz_at hh _⟩
theorem row2_max {w : World} {base : Nat} {v : Value} {n : Nat} {xs : List Value} (h : w.ownsRow base 110 2 v n xs) : n ≤ 9223372036854775807 := by
  rcases h.2 with ⟨_, h0⟩ | ⟨_, _, _, _, _, _, _, h3, _⟩
  · have := h.1
    rw [h0] at this
    simp at this
    omega
  · simp only [maxLen] at h3
    omega
theorem own_slice2 {w : World} {base n : Nat} {v : Value} {xs : List Value} (h : w.ownsRow base 110 2 v n xs) : ∃ A c, v = .slice A n c := own_slice h
set_option maxRecDepth 100000 in
theorem rsafe_calls {w : World} {B g : Nat} {v : Value} {room : Int} {l : List Int} {s : Nat} (h : Rk w B g v room (lay l s)) (hs : s ≤ l.length) (hl : l.length ≤ 1048576) :
    Calls Try.prog 27 #[.pointer (some ⟨g, 0, none⟩)] w fun e w' => e = .returned (.int .i64 (s : Int)) ∧ w' = w := by
  obtain ⟨A, c, rfl⟩ := own_slice2 h.own
  have hlen : (lay l s).length = l.length := lay_len l s
  have hO := h.own
  have c1 := cells_at h.blk 1
  rw [hlen] at hO c1
  have c1' : w.cell? ⟨g, 1, none⟩ = some (.slice A l.length c) := c1
  have HO := Lib.hid hO
  have hli : (l.length : Int) ≤ 1048576 := by omega
  have HS := Lib.hid hs
  clear h hO hs hlen c1
  go_enter Try.func27, Try.ntmps27
  go_wp2
  go_loopw [3, 4] (fun n i wr => ∃ k : Nat, k ≤ l.length ∧ i = .int .i64 (k : Nat) ∧ n = .int .i64 ((min k s : Nat) : Int) ∧ wr = w) (fun _ i _ => l.length - (intOf i).toNat)
  case atStart => exact ⟨0, Nat.zero_le _, rfl, by simp, rfl⟩
  case round =>
    obtain ⟨k, hk, rfl, rfl, rfl⟩ := hrel
    by_cases hlt : k < l.length
    · obtain ⟨x, hx⟩ : ∃ x, l[k]? = some x := ⟨_, List.getElem?_eq_getElem hlt⟩
      obtain ⟨b, rfl, _, d1, _⟩ := row2_cell HO.out k x (decide (k < s)) (by rw [lay_get, hx]; rfl)
      have hki : (k : Int) < (l.length : Int) := by omega
      have hmn : ((min k s : Nat) : Int) ≤ 1048576 := by omega
      have HK := Lib.hid hlt
      obtain ⟨q, hq⟩ : ∃ q : Nat, q = min k s := ⟨_, rfl⟩
      rw [← hq] at hmn ⊢
      have HQ := Lib.hid hq
      clear hlt hk hq hx
      by_cases hsf : k < s
      · have hd : decide (k < s) = true := decide_eq_true hsf
        have HF := Lib.hid hsf
        rw [hd] at d1
        clear hsf hd
        go_wp2
        go_roundw
        case rel => exact ⟨k + 1, HK.out, by go_num, (by have := HF.out; have := HQ.out; rw [show min (k + 1) s = q + 1 from by omega]; go_num), by trivial⟩
        case measure => have := HK.out; simp [intOf]; omega
      · have hd : decide (k < s) = false := decide_eq_false hsf
        have HF := Lib.hid hsf
        rw [hd] at d1
        clear hsf hd
        go_wp2
        go_roundw
        case rel => exact ⟨k + 1, HK.out, by go_num, (by have := HF.out; have := HQ.out; rw [show min (k + 1) s = q from by omega]), by trivial⟩
        case measure => have := HK.out; simp [intOf]; omega
    · obtain rfl : k = l.length := by omega
      have he : min l.length s = s := by have := HS.out; omega
      rw [he]
      clear hlt hk he
      go_wp2
      go_ret
      exact ⟨rfl, rfl⟩
end Go.Proofs.Ytcoodlncjnekoaa.E
