import Derived.Test.YtjibojmbhbaneaaXKit
import Derived.Test.YtjibojmbhbaneaaShelf
import Derived.Shelf.Slices.In.SortNone
import Derived.Sort.OwnSortedInts
/- slices.Clone at []int: the shelf's contract, laid at this program, in the print's words. -/
namespace Go.Proofs.Ytjibojmbhbaneaa.X
open Go.RowKit Go.Proofs.YtjibojmbhbaneaaW.PrintWords Go.Proofs.YtjibojmbhbaneaaW.PrintLast Go.Proofs.YtjibojmbhbaneaaW.PrintMore
theorem clone_calls (A : Option Addr) (c : Nat) (l : List Int) (w : World) (hC : (Kd.int .i64).C w A l.length l) (hl : l.length ≤ 17592186044415) :
    Calls Try.prog 26 #[.slice A l.length c] w fun e w' => ∃ v, e = .returned v ∧ (Kd.int .i64).R 3 w' w.heap.size (fun _ => True) v l ∧ Below w.heap.size w w' := by
  cases A with
  | none =>
    have h0 : l.length = 0 := by
      rcases Nat.eq_zero_or_pos l.length with h | h
      · exact h
      · obtain ⟨ad, hA, _⟩ := Kd.at_int hC 0 (by omega) (by omega)
        cases hA
    obtain rfl := List.length_eq_zero_iff.1 h0
    refine (Any.slices_Clone_int_nil Try.lays2_15 _ _ w).mono ?_
    rintro e w' ⟨rfl, rfl⟩
    exact ⟨_, rfl, Kd.R_nil _ _ _ _ _, Below.refl _ _⟩
  | some ad =>
    rcases Nat.eq_zero_or_pos l.length with h | h
    · obtain rfl := List.length_eq_zero_iff.1 h
      refine (Any.slices_Clone_int_zero Try.lays2_15 ad c w).mono ?_
      rintro e w' ⟨v, rfl, ho, _, hB⟩
      exact ⟨v, rfl, Kd.R_of_own ho (fun _ _ => trivial), hB⟩
    · obtain ⟨b, off, sp⟩ := ad
      have hs : sp = none := by
        obtain ⟨ad2, hA, hx⟩ := Kd.at_int hC 0 (by omega) (by omega)
        injection hA with hA
        subst hA
        cases sp with
        | none => rfl
        | some q => simp [World.cell?, Addr.add] at hx; split at hx <;> simp at hx
      subst hs
      refine (Any.slices_Clone_int Try.lays2_15 b off l.length c l w (Nat.le_refl _) (by omega) (fun j hj => ?_)).mono ?_
      · obtain ⟨ad2, hA, hx⟩ := Kd.at_int hC (j : Int) (by omega) (by omega)
        injection hA with hA
        subst hA
        rw [Int.toNat_natCast] at hx
        rw [Addr.add_lit] at hx
        simpa [rd] using hx
      · rintro e w' ⟨v, rfl, ho, _, hB⟩
        rw [List.take_length] at ho
        exact ⟨v, rfl, Kd.R_of_own ho (fun _ _ => trivial), hB⟩
end Go.Proofs.Ytjibojmbhbaneaa.X
/- slices.Sort at []int, on a row of the call's own: the shelf's contract, laid at this program. -/
namespace Go.Proofs.Ytjibojmbhbaneaa.X
open Go.RowKit Go.Sort Go.Proofs.YtjibojmbhbaneaaW.PrintWords Go.Proofs.YtjibojmbhbaneaaW.PrintLast Go.Proofs.YtjibojmbhbaneaaW.PrintMore
/-- The row in ascending order. -/
def sorted (xs : List Int) : List Int := xs.mergeSort fun x y => decide (x ≤ y)
theorem sort_own {w W : World} {base : Nat} {v : Value} {xs : List Int} (hR : (Kd.int .i64).R 3 W base (fun _ => True) v xs) (hl : xs.length < 4611686018427387904) (hB : Below base w W) (hb : base ≤ W.heap.size) :
    Calls Try.prog 27 #[v] W fun e W' => e = .returned (.tuple #[]) ∧ (Kd.int .i64).R 3 W' base (fun _ => True) v (sorted xs) ∧ Below base w W' := by
  have ho := Kd.own_of_R hR
  have hlen : (sorted xs).length = xs.length := List.length_mergeSort xs
  rcases ho.2 with ⟨rfl, h0⟩ | ⟨g, cap, cur, rfl, hg, hbk, h1, h2, h3, h4⟩
  · obtain rfl := List.length_eq_zero_iff.1 h0
    refine (Any.slices_Sort_int_none Try.lays189 none 0 W).mono ?_
    rintro e W' ⟨rfl, rfl⟩
    exact ⟨rfl, by rw [show sorted [] = ([] : List Int) from by simp [sorted]]; exact hR, hB⟩
  · have hH : Holds (Value.int .i64) W g 0 xs.toArray := holds_of_blockI hbk (by rw [Nat.mul_one] at h4; exact h4)
    refine (Any.slices_Sort_int Try.lays189 g 0 cap xs W hH (Array.getElem?_eq_some_iff.1 hbk).1 hl).mono ?_
    rintro e W' ⟨rfl, n, os, rfl⟩
    refine ⟨rfl, Kd.R_of_own ?_ (fun _ _ => trivial), hB.grown (grownBy_sortedI _) hb (fun j e => by cases e; exact hg)⟩
    rw [hlen]
    exact ownsRow_sortedI hlen hg hbk h1 h2 h3
end Go.Proofs.Ytjibojmbhbaneaa.X
