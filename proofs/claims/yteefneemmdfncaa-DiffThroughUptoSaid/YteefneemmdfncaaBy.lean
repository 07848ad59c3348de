import Derived.Test.YteefneemmdfncaaBx
/- The contract of what diff.Between hands back. Condition: neither list is too long. -/
namespace Go.Proofs.Yteefneemmdfncaa.M
open Go.RowKit Go.Shelf Go.Proofs.YteefneemmdfncaaW.Raw Go.Proofs.YteefneemmdfncaaW.PrintWords Go.Proofs.Yteefneemmdfncaa.F
set_option linter.unusedVariables false
/-- The changes from one list to another. -/
def changeL (old now : List Tri) : List (Tri × Bool) := goneL old now false ++ goneL now old true
theorem btw_stops (F : Fence) (n : Nat) (hf : F.fn 79) (hro : F.round = none) (hn : 1 ≤ n) (B hi g5 g6 g7 g8 mo mn : Nat) (Ao An : Option Addr) (co cn : Nat) (old now : List Tri) (w : World) (hB : Btw B hi w g5 g6 g7 g8 mo mn Ao An co cn old now) (hhi : hi ≤ w.heap.size) (hlo : old.length ≤ 1048576) (hln : now.length ≤ 1048576) :
    SeqStopsK F n Try.prog 79 #[.pointer (some ⟨g5, 0, none⟩), .pointer (some ⟨g8, 0, none⟩), .pointer (some ⟨g6, 0, none⟩), .pointer (some ⟨g7, 0, none⟩)] (fun x : Tri × Bool => #[chV x]) (keepS B hi) (fun ys => ys = changeL old now) (fun pre => pre <+: changeL old now) (old.length + now.length) w :=
  fun l J Jx W hW hJ hJx hY h0 => btw1_in F n hf hro hn l B hi g5 g6 g7 g8 mo mn Ao An co cn old now J Jx W.heap.size hJ hJx hY W (hB.keeps (keepS_below hW hhi)) (Nat.le_trans hhi hW.size) hlo hln h0
end Go.Proofs.Yteefneemmdfncaa.M
