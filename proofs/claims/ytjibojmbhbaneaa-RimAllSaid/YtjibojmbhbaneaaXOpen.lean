/- A row of rows of numbers that came in, in the print's words. -/
import Derived.Deep.Matrix
import Derived.Test.YtjibojmbhbaneaaXKit
namespace Go.Proofs.Ytjibojmbhbaneaa.X
open Go.RowKit Go.Deep Go.ChangeShapes Go.WideShapes Go.Proofs.YtjibojmbhbaneaaW.PrintWords Go.Proofs.YtjibojmbhbaneaaW.PrintLast Go.Proofs.YtjibojmbhbaneaaW.PrintMore

theorem C_ints {w : World} {k : IntKind} {A : Option Addr} {n c : Nat} {zs : List Int} (hn : n ≤ c) (hc : c ≤ maxLen) (hz : zs.length = c) (hA : A = none → c = 0) (hcell : ∀ a, A = some a → ∀ i, i < c → w.cell? (a.add i) = some (.int k (zs.getD i 0))) :
    (Kd.int k).C w A (zs.take n).length (zs.take n) := by
  have hl : (zs.take n).length = n := by rw [List.length_take]; omega
  refine ⟨rfl, by rw [hl]; unfold maxLen at hc; omega, fun h0 => ?_⟩
  cases A with
  | none => have := hA rfl; omega
  | some a =>
    refine ⟨a, rfl, fun j p hj => ⟨[.int k p], rfl, rfl, fun i u hu => ?_⟩⟩
    have hjl : j < n := by have := (List.getElem?_eq_some_iff.1 hj).1; omega
    cases i with
    | zero =>
      simp at hu
      subst hu
      have e1 : zs.getD j 0 = p := by
        rw [List.getElem?_take_of_lt hjl] at hj
        rw [List.getD_eq_getElem?_getD, hj]
        rfl
      have := hcell a rfl j (by omega)
      rw [e1] at this
      simpa [Kd.int, Kd.scalar] using this
    | succ i => simp at hu

/-- What a [][]int that came in holds. -/
theorem open_rows {H : Type} {enc : TypeId × Value → H} {P : Program} {W : World} {base : Nat} {held : Bool} {t e q : TypeId} {k : IntKind} {a : Option Addr} {len cap : Nat} {d : DataW H} {ps : List MemPlace}
    (ht : P.underlying t = some (.slice e)) (he : P.underlying e = some (.slice q)) (hq : P.underlying q = some (.int k)) (ce : P.cellsOf e = 1) (cq : P.cellsOf q = 1) (h : DataW.Trod enc P W base (fun _ => true) held t (.slice a len cap) d ps) :
    ∃ xs : List (List Int), (Kd.slice q (Kd.int k)).C W a xs.length xs ∧ len = xs.length ∧ xs.length ≤ cap ∧ xs.length ≤ 9223372036854775807 ∧ ∀ x ∈ xs, x.length ≤ 9223372036854775807 := by
  obtain ⟨fuel, hf⟩ := h
  rcases open_int_rows ht he hq ce cq hf with ⟨hcs, _⟩ | ⟨ad, l, c, A, L, C, Z, hcs, _, hl, hm, _, hrow⟩
  · simp [Value.cells] at hcs
    obtain ⟨rfl, rfl, rfl⟩ := hcs
    exact ⟨[], ⟨rfl, by simp, fun h => absurd h (Nat.lt_irrefl 0)⟩, rfl, by simp, by simp, by simp⟩
  · simp [Value.cells] at hcs
    obtain ⟨rfl, rfl, rfl⟩ := hcs
    unfold maxLen at hm
    have hlen : ((List.range len).map fun r => (Z r).take (L r)).length = len := by simp
    have hget : ∀ j p, ((List.range len).map fun r => (Z r).take (L r))[j]? = some p → j < len ∧ p = (Z j).take (L j) := by
      intro j p hj
      have hj1 := (List.getElem?_eq_some_iff.1 hj).1
      rw [hlen] at hj1
      rw [List.getElem?_map, List.getElem?_range hj1] at hj
      exact ⟨hj1, (Option.some.inj hj).symm⟩
    refine ⟨(List.range len).map fun r => (Z r).take (L r), ⟨rfl, by rw [hlen]; omega, fun _ => ⟨ad, rfl, fun j p hj => ?_⟩⟩, hlen.symm, by rw [hlen]; exact hl, by rw [hlen]; omega, fun x hx => ?_⟩
    · obtain ⟨hj1, rfl⟩ := hget j p hj
      obtain ⟨r1, r2, r3, r4, _, r6, r7⟩ := hrow j (by omega)
      have hLl : ((Z j).take (L j)).length = L j := by rw [List.length_take]; omega
      refine ⟨[.slice (A j) ((Z j).take (L j)).length (C j)], rfl, ⟨A j, C j, rfl, by rw [hLl]; exact r2, C_ints r2 r3 r4 r6 (fun a' ha' i hi => (r7 a' ha').2 i hi)⟩, fun i u hu => ?_⟩
      cases i with
      | zero =>
        rw [hLl] at hu
        simp at hu
        subst hu
        simpa [Kd.slice] using r1
      | succ i => simp at hu
    · obtain ⟨j, hj, rfl⟩ := List.mem_map.1 hx
      obtain ⟨_, r2, r3, r4, _⟩ := hrow j (by have := List.mem_range.1 hj; omega)
      unfold maxLen at r3
      rw [List.length_take]
      omega
/-- What an []int that came in holds. -/
theorem open_row {H : Type} {enc : TypeId × Value → H} {P : Program} {W : World} {base : Nat} {held : Bool} {t e : TypeId} {k : IntKind} {a : Option Addr} {len cap : Nat} {d : DataW H} {ps : List MemPlace}
    (ht : P.underlying t = some (.slice e)) (he : P.underlying e = some (.int k)) (ce : P.cellsOf e = 1) (h : DataW.Trod enc P W base (fun _ => true) held t (.slice a len cap) d ps) :
    ∃ xs : List Int, (Kd.int k).C W a xs.length xs ∧ len = xs.length ∧ xs.length ≤ cap ∧ xs.length ≤ 9223372036854775807 := by
  obtain ⟨fuel, hf⟩ := h
  rcases open_ints ht he ce hf with ⟨hcs, _⟩ | ⟨x, l, c, zs, hcs, _, hl, hm, hz, _, hcell, _⟩
  · simp [Value.cells] at hcs
    obtain ⟨rfl, rfl, rfl⟩ := hcs
    exact ⟨[], Kd.C_nil _ _, rfl, by simp, by simp⟩
  · simp [Value.cells] at hcs
    obtain ⟨rfl, rfl, rfl⟩ := hcs
    simp only [if_true] at hz
    have hlen : (zs.take len).length = len := by rw [List.length_take]; omega
    refine ⟨zs.take len, C_ints hl hm hz (by simp) (fun a ha i hi => ?_), hlen.symm, by omega, by unfold maxLen at hm; omega⟩
    cases ha
    exact hcell i (by omega)
end Go.Proofs.Ytjibojmbhbaneaa.X
