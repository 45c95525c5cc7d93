/- balustradelaw29.works: true, by evaluation. -/
import Derived.Test.YtjibojmbhbaneaaPRmx6
namespace Go.Proofs.Ytjibojmbhbaneaa.PRm
open Go.RowKit Go.Proofs.YtjibojmbhbaneaaW.PrintWords Go.Proofs.YtjibojmbhbaneaaW.PrintLast Go.Proofs.YtjibojmbhbaneaaW.PrintMore Go.Proofs.Ytjibojmbhbaneaa.X
theorem works29_at : balustradelaw29_works.f 40 = some true := by kernel_rfl
theorem works29 : ∀ k, 40 ≤ k → balustradelaw29_works.f k = some true := by
  intro k hk
  obtain ⟨n, rfl⟩ := Nat.exists_eq_add_of_le hk
  induction n with
  | zero => exact works29_at
  | succ n ih => exact balustradelaw29_works.mono _ _ (ih (by omega))
end Go.Proofs.Ytjibojmbhbaneaa.PRm
