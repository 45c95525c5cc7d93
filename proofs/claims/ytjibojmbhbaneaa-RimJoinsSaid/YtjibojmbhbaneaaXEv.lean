/- Plain laws of the printed functions that only read: enough rounds tell. -/
import Derived.Test.YtjibojmbhbaneaaPRmx6
namespace Go.Proofs.Ytjibojmbhbaneaa.PRm
open Go.RowKit Go.Proofs.YtjibojmbhbaneaaW.PrintWords Go.Proofs.YtjibojmbhbaneaaW.PrintLast Go.Proofs.YtjibojmbhbaneaaW.PrintMore Go.Proofs.Ytjibojmbhbaneaa.X
set_option linter.unusedVariables false
set_option linter.unusedSimpArgs false
/-- With enough rounds f tells r. -/
def Ev {α : Type} (f : Nat → Option α) (r : α) : Prop := ∃ K, ∀ k, K ≤ k → f k = some r
theorem Ev.const {α : Type} (r : α) : Ev (fun _ => some r) r := ⟨0, fun _ _ => rfl⟩
theorem Ev.succ {α : Type} {f : Nat → Option α} {r : α} (h : Ev (fun k => f (k + 1)) r) : Ev f r := by
  obtain ⟨K, h⟩ := h
  refine ⟨K + 1, fun k hk => ?_⟩
  obtain ⟨n, rfl⟩ := Nat.exists_eq_add_of_le (show 1 ≤ k by omega)
  rw [Nat.add_comm]
  exact h n (by omega)
theorem Ev.bind {α β : Type} {f : Nat → Option α} {g : Nat → α → Option β} {a : α} {r : β} (h1 : Ev f a) (h2 : Ev (fun k => g k a) r) : Ev (fun k => (f k).bind (g k)) r := by
  obtain ⟨K, h1⟩ := h1
  obtain ⟨L, h2⟩ := h2
  refine ⟨max K L, fun k hk => ?_⟩
  have e1 := h1 k (by omega)
  have e2 : g k a = some r := h2 k (by omega)
  show (f k).bind (g k) = some r
  rw [e1]
  exact e2
theorem Ev.of_eq {α : Type} {f g : Nat → Option α} {r : α} (h : Ev g r) (e : ∀ k, f k = g k) : Ev f r := by
  obtain ⟨K, h⟩ := h
  exact ⟨K, fun k hk => (e k).trans (h k hk)⟩
theorem wr1 (j : Nat) (h : j < 9223372036854775807) : wrap64 ((j : Int) + 1) = ((j + 1 : Nat) : Int) := by unfold wrap64; omega
theorem rd_nat (x : List Int) (j : Nat) (h : j < x.length) : rd x (j : Int) = x[j] := by simp [rd, List.getD, h]
theorem HasInt_l (x : List Int) (v : Int) (hx : x.length ≤ 9223372036854775807) : ∀ m j, m = x.length - j → j ≤ x.length → Ev (fun k => balustradebase_HasInt.l0 k x v (j : Int)) (decide (v ∈ x.drop j))
  | 0, j, hm, hj => by
    refine Ev.succ (Ev.of_eq (Ev.const _) fun k => ?_)
    have : ¬ (j : Int) < (x.length : Int) := by omega
    rw [balustradebase_HasInt.l0, if_neg this, List.drop_eq_nil_of_le (by omega)]
    simp
  | m + 1, j, hm, hj => by
    have h1 : (j : Int) < (x.length : Int) := by omega
    have h2 : (0 : Int) ≤ (j : Int) := by omega
    have hlt : j < x.length := by omega
    refine Ev.succ ?_
    by_cases h : x[j] = v
    · refine Ev.of_eq (Ev.const _) fun k => ?_
      rw [balustradebase_HasInt.l0, if_pos h1, if_pos h2, rd_nat x j hlt, if_pos h, List.drop_eq_getElem_cons hlt]
      simp [h]
    · have ih := HasInt_l x v hx m (j + 1) (by omega) (by omega)
      rw [List.drop_eq_getElem_cons hlt, show decide (v ∈ x[j] :: x.drop (j + 1)) = decide (v ∈ x.drop (j + 1)) from by rw [decide_eq_decide, List.mem_cons]; exact or_iff_right (fun e => h e.symm)]
      refine Ev.of_eq ih fun k => ?_
      rw [balustradebase_HasInt.l0, if_pos h1, if_pos h2, rd_nat x j hlt, if_neg h, wr1 j (by omega)]
theorem HasInt_ev (x : List Int) (v : Int) (hx : x.length ≤ 9223372036854775807) : Ev (fun k => balustradebase_HasInt.f k x v) (decide (v ∈ x)) := by
  have := HasInt_l x v hx _ 0 rfl (by omega)
  simpa [balustradebase_HasInt.f] using this
theorem Ints_eq (l : List Int) (h : l.length < 17592186044416) : balustradebase_Ints.f l = some l := by
  simp [balustradebase_Ints.f, h]
end Go.Proofs.Ytjibojmbhbaneaa.PRm
