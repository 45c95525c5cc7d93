/- slices.Clone at []int: the shelf's contract, laid at this program, in the print's words. -/
import Derived.Test.YtjibojmbhbaneaaXKit
import Derived.Test.YtjibojmbhbaneaaShelf
namespace Go.Proofs.Ytjibojmbhbaneaa.X
open Go.RowKit Go.Proofs.YtjibojmbhbaneaaW.PrintWords Go.Proofs.YtjibojmbhbaneaaW.PrintLast Go.Proofs.YtjibojmbhbaneaaW.PrintMore

theorem clone_calls (A : Option Addr) (c : Nat) (l : List Int) (w : World) (hC : (Kd.int .i64).C w A l.length l) (hl : l.length ≤ 17592186044415) :
    Calls Try.prog 26 #[.slice A l.length c] w fun e w' => ∃ v, e = .returned v ∧ (Kd.int .i64).R 3 w' w.heap.size (fun _ => True) v l ∧ Below w.heap.size w w' := by
  cases A with
  | none =>
    have h0 : l.length = 0 := by
      rcases Nat.eq_zero_or_pos l.length with h | h
      · exact h
      · obtain ⟨ad, hA, _⟩ := Kd.at_int hC 0 (by omega) (by omega)
        cases hA
    obtain rfl := List.length_eq_zero_iff.1 h0
    refine (Any.slices_Clone_int_nil Try.lays2_15 _ _ w).mono ?_
    rintro e w' ⟨rfl, rfl⟩
    exact ⟨_, rfl, Kd.R_nil _ _ _ _ _, Below.refl _ _⟩
  | some ad =>
    rcases Nat.eq_zero_or_pos l.length with h | h
    · obtain rfl := List.length_eq_zero_iff.1 h
      refine (Any.slices_Clone_int_zero Try.lays2_15 ad c w).mono ?_
      rintro e w' ⟨v, rfl, ho, _, hB⟩
      exact ⟨v, rfl, Kd.R_of_own ho (fun _ _ => trivial), hB⟩
    · obtain ⟨b, off, sp⟩ := ad
      have hs : sp = none := by
        obtain ⟨ad2, hA, hx⟩ := Kd.at_int hC 0 (by omega) (by omega)
        injection hA with hA
        subst hA
        cases sp with
        | none => rfl
        | some q => simp [World.cell?, Addr.add] at hx; split at hx <;> simp at hx
      subst hs
      refine (Any.slices_Clone_int Try.lays2_15 b off l.length c l w (Nat.le_refl _) (by omega) (fun j hj => ?_)).mono ?_
      · obtain ⟨ad2, hA, hx⟩ := Kd.at_int hC (j : Int) (by omega) (by omega)
        injection hA with hA
        subst hA
        rw [Int.toNat_natCast] at hx
        rw [Addr.add_lit] at hx
        simpa [rd] using hx
      · rintro e w' ⟨v, rfl, ho, _, hB⟩
        rw [List.take_length] at ho
        exact ⟨v, rfl, Kd.R_of_own ho (fun _ _ => trivial), hB⟩
end Go.Proofs.Ytjibojmbhbaneaa.X
