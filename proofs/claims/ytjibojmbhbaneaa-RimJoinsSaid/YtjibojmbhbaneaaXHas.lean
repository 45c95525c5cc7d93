/- instr.has: what an Op has, as a number. -/
import Derived.Test.YtjibojmbhbaneaaPRmx0
import Derived.Test.YtjibojmbhbaneaaXMaps
namespace Go.Proofs.Ytjibojmbhbaneaa.PRm
open Go.RowKit Go.Proofs.YtjibojmbhbaneaaW.PrintWords Go.Proofs.YtjibojmbhbaneaaW.PrintLast Go.Proofs.YtjibojmbhbaneaaW.PrintMore Go.Proofs.Ytjibojmbhbaneaa.X
def instr_has.tab : List (Int × Int) := [(20, 17), (21, 33), (22, 1), (30, 14), (31, 258), (32, 262), (33, 262), (34, 262), (35, 262), (36, 258), (37, 262), (38, 258), (39, 577), (40, 2), (41, 64), (42, 194), (43, 2), (44, 1537), (45, 2055)]
def instr_has.look (a : Int) : Int := (((instr_has.tab.find? (fun p => a == p.1)).map (·.2)).getD 0)
def instr_has.v (a : Int) : Int := if 3 ≤ a ∧ a ≤ 16 ∨ a = 29 then 7 else if 23 ≤ a ∧ a ≤ 28 then 3 else instr_has.look a
def instr_has.f (a0 : Int) : Option (Int) := some (instr_has.v a0)
theorem instr_has.zero3 (w : World) : (zeroValue 3).run Try.prog w = .ok (.int .i64 0) w := by kernel_rfl
set_option maxHeartbeats 1000000 in
set_option maxRecDepth 100000 in
theorem instr_has.map (a0 : Int) (w : World) (h1 : ¬ (3 ≤ a0 ∧ a0 ≤ 16 ∨ a0 = 29)) (h2 : ¬ (23 ≤ a0 ∧ a0 ≤ 28)) :
    Calls Try.prog 95 #[.int .i64 a0] w fun e w' => e = .returned (.int .i64 (instr_has.look a0)) ∧ Below w.heap.size w w' := by
  have hmm := @run_makeMap Try.prog
  have b1 : decide (a0 ≥ 3) = true → decide (a0 ≤ 16) = false := by simp; omega
  have b29 : (a0 == 29) = false := by simp; omega
  have b2 : decide (a0 ≥ 23) = true → decide (a0 ≤ 28) = false := by simp; omega
  go_enter Try.func95, Try.ntmps95
  go_wp2_with (first
    | ((refine wpList_insert_hm (B := w.heap.size) (b := w.heap.size) (w0 := w) rfl _ _ _ 53 rfl Try.underlying53 Try.underlying3 (by first | assumption | simp) (by first | assumption | exact HM.made _) rfl _ _ rfl rfl rfl ?_); intro w1 h1m h1b; simp only [List.nil_append, List.cons_append] at h1m)
    | ((refine wpList_lookup_im rfl _ _ 53 rfl Try.underlying53 Try.underlying3 instr_has.zero3 (b := w.heap.size) (kv := instr_has.tab) rfl (HM.im (by assumption)) a0 rfl ?_); intro c hc))
  all_goals
    go_ret
    exact ⟨rfl, HM.bel (by assumption)⟩
theorem instr_has.calls (a0 : Int) (r : Int) (w : World) (h : instr_has.f a0 = some r) :
    Calls Try.prog 95 #[.int .i64 a0] w fun e w' => e = .returned (.int .i64 r) ∧ Below w.heap.size w w' := by
  obtain rfl := Option.some.inj h
  clear h
  by_cases h1 : 3 ≤ a0 ∧ a0 ≤ 16 ∨ a0 = 29
  · rw [show instr_has.v a0 = 7 by simp [instr_has.v, h1]]
    rcases h1 with ⟨h1, h2⟩ | rfl
    · go_enter Try.func95, Try.ntmps95
      go_wp2
      go_ret
      exact ⟨rfl, Below.refl _ _⟩
    · go_enter Try.func95, Try.ntmps95
      go_wp2
      go_ret
      exact ⟨rfl, Below.refl _ _⟩
  · by_cases h2 : 23 ≤ a0 ∧ a0 ≤ 28
    · rw [show instr_has.v a0 = 3 by simp only [instr_has.v, if_neg h1, if_pos h2]]
      obtain ⟨h3, h4⟩ := h2
      have b29 : (a0 == 29) = false := by simp; omega
      clear h1
      have h5 : ¬ a0 ≤ 16 := by omega
      have h6 : 3 ≤ a0 := by omega
      go_enter Try.func95, Try.ntmps95
      go_wp2
      go_ret
      exact ⟨rfl, Below.refl _ _⟩
    · rw [show instr_has.v a0 = instr_has.look a0 by simp only [instr_has.v, if_neg h1, if_neg h2]]
      exact instr_has.map a0 w h1 h2
end Go.Proofs.Ytjibojmbhbaneaa.PRm
