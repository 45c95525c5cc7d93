/- A row of rows of numbers that is written while other rows, made between two worlds, are read. -/
import Derived.Test.YtjibojmbhbaneaaXKit
namespace Go.Proofs.Ytjibojmbhbaneaa.X
open Go.RowKit Go.Proofs.YtjibojmbhbaneaaW.PrintWords Go.Proofs.YtjibojmbhbaneaaW.PrintLast Go.Proofs.YtjibojmbhbaneaaW.PrintMore
def preds.I (w W2 W3 : World) (g cap n : Nat) (out : List (List Int)) (W : World) : Prop :=
  Kd.S (Kd.slice 3 (Kd.int .i64)) 23 W w.heap.size (fun q => q < W2.heap.size ∨ W3.heap.size ≤ q) (.slice (some ⟨g, 0, none⟩) n cap) out ∧ (∀ q, W2.heap.size ≤ q → q < W3.heap.size → W.heap[q]? = W3.heap[q]?) ∧ Below w.heap.size w W ∧ W3.heap.size ≤ W.heap.size
/-- What stands when one inner row has grown and has been stored back. -/
theorem preds.I.next {w W2 W3 W W1 : World} {g cap n : Nat} {out : List (List Int)} {A0 : Option Addr} {c0 m : Nat} {v1 : Value} {off : Nat} {out' : List (List Int)}
    (h : preds.I w W2 W3 g cap n out W) (hg2 : g < W2.heap.size ∨ W3.heap.size ≤ g) (hgw : w.heap.size ≤ g) (hz : W2.heap.size ≤ W3.heap.size) (hg : W.grownBy W1 (Value.slice A0 m c0).ownBlock) (hr : ∀ q, (Value.slice A0 m c0).ownBlock = some q → w.heap.size ≤ q ∧ (q < W2.heap.size ∨ W3.heap.size ≤ q))
    (hS : Kd.S (Kd.slice 3 (Kd.int .i64)) 23 (W1.setCell ⟨g, off, none⟩ v1) w.heap.size (fun q => q < W2.heap.size ∨ W3.heap.size ≤ q) (.slice (some ⟨g, 0, none⟩) n cap) out') :
    preds.I w W2 W3 g cap n out' (W1.setCell ⟨g, off, none⟩ v1) := by
  obtain ⟨_, h2, h3, h4⟩ := h
  refine ⟨hS, fun q h5 h6 => ?_, ?_, ?_⟩
  · rw [Below.heap_setCell W1 ⟨g, off, none⟩ _ q (by show q ≠ g; omega), hg.block q (by omega) (fun e => by have := (hr q e.symm).2; omega)]
    exact h2 q h5 h6
  · exact (h3.grown hg h3.size (fun j e => (hr j e).1)).setCell (p := ⟨g, off, none⟩) hgw _
  · have := hg.size; simp; omega
end Go.Proofs.Ytjibojmbhbaneaa.X
