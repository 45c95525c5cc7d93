/- slices.Sort at []int, on a row of the call's own: the shelf's contract, laid at this program. -/
import Derived.Shelf.Slices.In.SortNone
import Derived.Sort.OwnSortedInts
import Derived.Test.YtjibojmbhbaneaaXKit
import Derived.Test.YtjibojmbhbaneaaShelf
namespace Go.Proofs.Ytjibojmbhbaneaa.X
open Go.RowKit Go.Sort Go.Proofs.YtjibojmbhbaneaaW.PrintWords Go.Proofs.YtjibojmbhbaneaaW.PrintLast Go.Proofs.YtjibojmbhbaneaaW.PrintMore

/-- The row in ascending order. -/
def sorted (xs : List Int) : List Int := xs.mergeSort fun x y => decide (x ≤ y)
theorem sort_own {w W : World} {base : Nat} {v : Value} {xs : List Int} (hR : (Kd.int .i64).R 3 W base (fun _ => True) v xs) (hl : xs.length < 4611686018427387904) (hB : Below base w W) (hb : base ≤ W.heap.size) :
    Calls Try.prog 27 #[v] W fun e W' => e = .returned (.tuple #[]) ∧ (Kd.int .i64).R 3 W' base (fun _ => True) v (sorted xs) ∧ Below base w W' := by
  have ho := Kd.own_of_R hR
  have hlen : (sorted xs).length = xs.length := List.length_mergeSort xs
  rcases ho.2 with ⟨rfl, h0⟩ | ⟨g, cap, cur, rfl, hg, hbk, h1, h2, h3, h4⟩
  · obtain rfl := List.length_eq_zero_iff.1 h0
    refine (Any.slices_Sort_int_none Try.lays189 none 0 W).mono ?_
    rintro e W' ⟨rfl, rfl⟩
    exact ⟨rfl, by rw [show sorted [] = ([] : List Int) from by simp [sorted]]; exact hR, hB⟩
  · have hH : Holds (Value.int .i64) W g 0 xs.toArray := holds_of_blockI hbk (by rw [Nat.mul_one] at h4; exact h4)
    refine (Any.slices_Sort_int Try.lays189 g 0 cap xs W hH (Array.getElem?_eq_some_iff.1 hbk).1 hl).mono ?_
    rintro e W' ⟨rfl, n, os, rfl⟩
    refine ⟨rfl, Kd.R_of_own ?_ (fun _ _ => trivial), hB.grown (grownBy_sortedI _) hb (fun j e => by cases e; exact hg)⟩
    rw [hlen]
    exact ownsRow_sortedI hlen hg hbk h1 h2 h3
end Go.Proofs.Ytjibojmbhbaneaa.X
