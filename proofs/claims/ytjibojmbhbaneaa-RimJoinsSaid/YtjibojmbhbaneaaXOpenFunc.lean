/- An api.Func that came in by value. -/
import Derived.Test.YtjibojmbhbaneaaPRmx0
import Derived.Test.YtjibojmbhbaneaaXOpenS
namespace Go.Proofs.Ytjibojmbhbaneaa.PRm
open Go.RowKit Go.Deep Go.ChangeShapes Go.WideShapes Go.Proofs.YtjibojmbhbaneaaW.PrintWords Go.Proofs.YtjibojmbhbaneaaW.PrintLast Go.Proofs.YtjibojmbhbaneaaW.PrintMore Go.Proofs.Ytjibojmbhbaneaa.X
set_option linter.unusedVariables false
set_option linter.unusedSimpArgs false
instance : Inhabited S50 := ⟨z50⟩
theorem bytesInt : Try.prog.bytesOf 3 = 8 := by kernel_rfl
theorem bytesInstrs : Try.prog.bytesOf 51 = 24 := by kernel_rfl
theorem bytesInstr : Try.prog.bytesOf 50 = 88 := by kernel_rfl
theorem oInt : Opens Try.prog 3 (Kd.int .i64) (fun _ => True) := (opens_int Try.underlying3 (by kernel_rfl)).imp (fun _ _ => trivial)
theorem oInts : Opens Try.prog 23 (Kd.slice 3 (Kd.int .i64)) (fun xs => xs.length ≤ 17592186044415) := (opens_slice Try.underlying23 (by kernel_rfl) oInt).imp (fun xs h => by
  have := h.1
  rw [bytesInt] at this
  unfold reachBytes at this
  omega)
set_option maxRecDepth 100000 in
theorem oInstr : Opens Try.prog 50 k50 (fun i => i.f8.length ≤ 17592186044415) :=
  (opens_struct (fun x : S50 => (x.f0, x.f1, x.f2, x.f3, x.f4, x.f5, x.f6, x.f7, x.f8)) (fun p => ⟨p.1, p.2.1, p.2.2.1, p.2.2.2.1, p.2.2.2.2.1, p.2.2.2.2.2.1, p.2.2.2.2.2.2.1, p.2.2.2.2.2.2.2.1, p.2.2.2.2.2.2.2.2⟩) (fun _ => rfl) Try.underlying50 (by kernel_rfl)
    (opensF_cons rfl oInt (opensF_cons rfl oInt (opensF_cons rfl oInt (opensF_cons rfl oInt (opensF_cons rfl oInt (opensF_cons rfl oInt (opensF_cons rfl oInt (opensF_cons rfl oInt (opensF_last rfl oInts)))))))))).imp (fun i h => h.2.2.2.2.2.2.2.2)
theorem oInstrs : Opens Try.prog 51 (Kd.slice 50 k50) (fun b => b.length ≤ 1599289640401 ∧ ∀ i, i ∈ b → i.f8.length ≤ 17592186044415) := (opens_slice Try.underlying51 (by kernel_rfl) oInstr).imp (fun xs h => by
  have := h.1
  rw [bytesInstr] at this
  unfold reachBytes at this
  exact ⟨by omega, h.2.2⟩)
theorem oBlocks : Opens Try.prog 28 (Kd.slice 51 (Kd.slice 50 k50)) (fun bs => bs.length ≤ 5864062014805 ∧ ∀ b, b ∈ bs → b.length ≤ 1599289640401 ∧ ∀ i, i ∈ b → i.f8.length ≤ 17592186044415) := (opens_slice Try.underlying28 (by kernel_rfl) oInstrs).imp (fun xs h => by
  have := h.1
  rw [bytesInstrs] at this
  unfold reachBytes at this
  exact ⟨by omega, h.2.2⟩)
theorem oString : Opens Try.prog 9 Kd.string (fun s => s.size ≤ reachBytes) := opens_string Try.underlying9 (by kernel_rfl)
set_option maxRecDepth 100000 in
theorem oFunc : Opens Try.prog 30 k30 (fun f => f.f0.size ≤ reachBytes ∧ f.f3.length ≤ 17592186044415 ∧ f.f4.length ≤ 5864062014805 ∧ ∀ b, b ∈ f.f4 → b.length ≤ 1599289640401 ∧ ∀ i, i ∈ b → i.f8.length ≤ 17592186044415) :=
  (opens_struct (fun x : S30 => (x.f0, x.f1, x.f2, x.f3, x.f4)) (fun p => ⟨p.1, p.2.1, p.2.2.1, p.2.2.2.1, p.2.2.2.2⟩) (fun _ => rfl) Try.underlying30 (by kernel_rfl)
    (opensF_cons rfl oString (opensF_cons rfl oInt (opensF_cons rfl oInt (opensF_cons rfl oInts (opensF_last rfl oBlocks)))))).imp (fun f h => ⟨h.1, h.2.2.2.1, h.2.2.2.2⟩)
set_option maxRecDepth 100000 in
theorem open_func {H : Type} {enc : TypeId × Value → H} {W : World} {base b0 : Nat} {held : Bool} {r : Reach} {v : Value} {D : DataW H} {ps : List MemPlace}
    (hv : Value.okWide Try.prog W r b0 30 v) (h : DataW.Trod enc Try.prog W base (fun _ => true) held 30 v D ps) (hw : ∀ n, n ∈ D.weights Try.prog 30 → n ≤ reachBytes) :
    ∃ (a0 : ByteArray) (a1 a2 : Int) (A3 : Option Addr) (c3 : Nat) (l3 : List Int) (A4 : Option Addr) (c4 : Nat) (l4 : List (List (S50))), v = .agg #[.string a0, .int .i64 a1, .int .i64 a2, .slice A3 l3.length c3, .slice A4 l4.length c4] ∧
      Kd.C (Kd.int .i64) W A3 l3.length l3 ∧ l3.length ≤ c3 ∧ Kd.C (Kd.slice 50 k50) W A4 l4.length l4 ∧ l4.length ≤ c4 ∧ l4.length ≤ 5864062014805 ∧ ∀ b, b ∈ l4 → b.length ≤ 1599289640401 ∧ ∀ i, i ∈ b → i.f8.length ≤ 17592186044415 := by
  obtain ⟨x, cs, rfl, hK, _, _, g4, g5⟩ := opens_agg oFunc Try.underlying30 hv h hw
  obtain ⟨a0, a1, a2, l3, l4⟩ := x
  obtain ⟨d0, r0, e0, k0, d1, r1, e1, k1, d2, r2, e2, k2, d3, r3, e3, ⟨A3, c3, k3, h3, h3'⟩, A4, c4, k4, h4, h4'⟩ := hK
  obtain rfl : d0 = [.string a0] := k0
  obtain rfl : d1 = [.int .i64 a1] := k1
  obtain rfl : d2 = [.int .i64 a2] := k2
  subst k3 k4 e3 e2 e1
  refine ⟨a0, a1, a2, A3, c3, l3, A4, c4, l4, ?_, h3', h3, h4', h4, g4, g5⟩
  congr 1
  apply Array.toList_inj.1
  exact e0
end Go.Proofs.Ytjibojmbhbaneaa.PRm
