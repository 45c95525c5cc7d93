/- Plain law: both programs' edges are one list: the reference's Right, the targets, the rows. -/
import Derived.Test.YtjibojmbhbaneaaXPSuccs
namespace Go.Proofs.Ytjibojmbhbaneaa.PRm
open Go.RowKit Go.Proofs.YtjibojmbhbaneaaW.PrintWords Go.Proofs.YtjibojmbhbaneaaW.PrintLast Go.Proofs.YtjibojmbhbaneaaW.PrintMore Go.Proofs.Ytjibojmbhbaneaa.X
set_option linter.unusedVariables false
set_option linter.unusedSimpArgs false
theorem two_ev (a : Int) : ∃ b, Ev (fun k => balustraderef15_two.f k a) b := by
  have h : Tot fun k => (balustradebase_HasInt.f k ([29, 32, 33, 34, 35, 37] : List Int) a).bind fun t => some t := Tot.bind ⟨_, HasInt_ev _ a (by simp)⟩ (fun b => Tot.const b)
  unfold balustraderef15_two.f
  exact Tot.ite (fun _ => Tot.ite (fun _ => Tot.const _) (fun _ => h)) (fun _ => h)
theorem one_ev (a : Int) : Ev (fun k => balustraderef15_one.f k a) (decide (a ∈ ([23, 24, 25, 26, 27, 28, 31, 36, 38, 40, 42, 43] : List Int))) := by
  unfold balustraderef15_one.f
  exact Ev.bind (HasInt_ev _ a (by simp)) (Ev.const _)
theorem writes_some (a : Int) : ∃ b, balustraderef15_Writes.f a = some b := by
  unfold balustraderef15_Writes.f
  repeat' split
  all_goals exact ⟨_, rfl⟩
theorem check_some (a : Int) : ∃ b, balustraderef15_Check.f a = some b := by
  unfold balustraderef15_Check.f
  split
  all_goals exact ⟨_, rfl⟩
theorem rright_tot (a0 a1 a2 a3 a4 a5 a6 a7 : Int) (l : List Int) : Tot fun k => balustraderef15_Right.f k a0 a1 a2 a3 a4 a5 a6 a7 l := by
  obtain ⟨t, ht⟩ := two_ev a0
  obtain ⟨w, hw⟩ := writes_some a0
  obtain ⟨c, hc⟩ := check_some a0
  unfold balustraderef15_Right.f
  refine Tot.ite (fun _ => Tot.const _) (fun _ => Tot.ite (fun _ => Tot.const _) (fun _ => Tot.ite (fun _ => Tot.const _) (fun _ => ?_)))
  refine Tot.bind ⟨_, ht⟩ (fun t => Tot.bind ⟨_, one_ev a0⟩ (fun o => ?_))
  exact Tot.of_eq (Tot.const _) (fun k => by rw [hw, hc, Option.bind_some, Option.bind_some])
theorem fit_false (n : Int) : rright.fit false n = decide (n = 0) := by unfold rright.fit; rw [Bool.eq_iff_iff]; simp
theorem fit_true (n : Int) : rright.fit true n = decide (0 ≤ n) := by
  unfold rright.fit
  rw [Bool.eq_iff_iff]
  simp
  omega
theorem rargs_nil (l : List Int) (h : l.length = 0) : rright.args l = true := by
  obtain rfl := List.length_eq_zero_iff.1 h
  rfl
theorem rright41 (a1 a2 a3 a4 a5 a6 a7 : Int) (l : List Int) : Ev (fun k => balustraderef15_Right.f k 41 a1 a2 a3 a4 a5 a6 a7 l) (jumpB a1 a2 a3 a4 a5 a6 a7 l.length) := by
  unfold balustraderef15_Right.f
  refine Ev.ite (fun h => absurd h (by decide)) (fun _ => Ev.ite (fun h => absurd h (by decide)) (fun _ => Ev.ite (fun h => absurd h (by decide)) (fun _ => ?_)))
  refine Ev.bind (a := false) (Ev.of_mono (balustraderef15_two.mono _) (k := 20) (by kernel_rfl)) (Ev.bind (one_ev 41) ?_)
  refine Ev.of_eq (Ev.const _) (fun k => ?_)
  show some (if rright.bad (false || (41 : Int) == 30 || (41 : Int) == 45) false false false 41 a1 a2 a3 a4 a6 a7 = true then false else if rright.args l = true then rright.last 41 a5 a6 l.length else false) = _
  congr 1
  have hbad : rright.bad (false || (41 : Int) == 30 || (41 : Int) == 45) false false false 41 a1 a2 a3 a4 a6 a7 = !decide (a1 = 0 ∧ a2 = 0 ∧ a3 = 0 ∧ a4 = 0 ∧ a7 = 0) := by
    rw [show (false || (41 : Int) == 30 || (41 : Int) == 45) = false from rfl]
    unfold rright.bad
    rw [show ((41 : Int) == 30) = false from rfl, show (false || false) = false from rfl, Bool.false_and, fit_false, fit_false, fit_false, fit_false, fit_false]
    rw [Bool.eq_iff_iff]
    simp
    omega
  rw [hbad]
  unfold rright.last jumpB
  by_cases hl : l.length = 0
  · rw [rargs_nil l hl]
    rw [Bool.eq_iff_iff]
    simp [hl]
    omega
  · have : ¬ (l.length ≤ 0) := by omega
    rw [Bool.eq_iff_iff]
    simp [hl, show 0 < l.length by omega]
theorem rright42 (a1 a2 a3 a4 a5 a6 a7 : Int) (l : List Int) : Ev (fun k => balustraderef15_Right.f k 42 a1 a2 a3 a4 a5 a6 a7 l) (branchB a1 a2 a3 a4 a5 a6 a7 l.length) := by
  unfold balustraderef15_Right.f
  refine Ev.ite (fun h => absurd h (by decide)) (fun _ => Ev.ite (fun h => absurd h (by decide)) (fun _ => Ev.ite (fun h => absurd h (by decide)) (fun _ => ?_)))
  refine Ev.bind (a := false) (Ev.of_mono (balustraderef15_two.mono _) (k := 20) (by kernel_rfl)) (Ev.bind (one_ev 42) ?_)
  refine Ev.of_eq (Ev.const _) (fun k => ?_)
  show some (if rright.bad (false || (42 : Int) == 30 || (42 : Int) == 45) true false false 42 a1 a2 a3 a4 a6 a7 = true then false else if rright.args l = true then rright.last 42 a5 a6 l.length else false) = _
  congr 1
  have hbad : rright.bad (false || (42 : Int) == 30 || (42 : Int) == 45) true false false 42 a1 a2 a3 a4 a6 a7 = !decide (a1 = 0 ∧ 0 ≤ a2 ∧ a3 = 0 ∧ a4 = 0 ∧ a7 = 0) := by
    rw [show (false || (42 : Int) == 30 || (42 : Int) == 45) = false from rfl]
    unfold rright.bad
    rw [show ((42 : Int) == 30) = false from rfl, show (false || true) = true from rfl, Bool.false_and, fit_false, fit_true, fit_false, fit_false, fit_false]
    rw [Bool.eq_iff_iff]
    simp
    omega
  rw [hbad]
  unfold rright.last branchB
  by_cases hl : l.length = 0
  · rw [rargs_nil l hl]
    rw [Bool.eq_iff_iff]
    simp [hl]
    omega
  · rw [Bool.eq_iff_iff]
    simp [hl, show 0 < l.length by omega]
/-- To where an instruction goes on. -/
def tgt (i : S50) : List Int :=
  if i.f0 = 41 then (if jumpB i.f1 i.f2 i.f3 i.f4 i.f5 i.f6 i.f7 i.f8.length = true then [i.f5] else [])
  else if i.f0 = 42 then (if branchB i.f1 i.f2 i.f3 i.f4 i.f5 i.f6 i.f7 i.f8.length = true then [i.f5, i.f6] else [])
  else []
theorem tgt_nn (i : S50) (t : Int) (h : t ∈ tgt i) : 0 ≤ t := by
  unfold tgt at h
  split at h
  · split at h
    · rename_i h1
      simp only [jumpB, decide_eq_true_eq] at h1
      simp at h
      omega
    · simp at h
  · split at h
    · split at h
      · rename_i h1
        simp only [branchB, decide_eq_true_eq] at h1
        simp at h
        omega
      · simp at h
    · simp at h
theorem tgt_nd (i : S50) : (tgt i).Nodup := by
  unfold tgt
  split
  · split <;> simp
  · split
    · split
      · rename_i h1
        simp only [branchB, decide_eq_true_eq] at h1
        simp
        omega
      · simp
    · simp
theorem tgt_len (i : S50) : (tgt i).length ≤ 2 := by
  unfold tgt
  repeat' split
  all_goals simp
theorem itargets_ev (i : S50) (hl : i.f8.length ≤ 9223372036854775807) : Ev (fun k => instr_Targets.f k i.f0 i.f1 i.f2 i.f3 i.f4 i.f5 i.f6 i.f7 i.f8) (tgt i) := by
  obtain ⟨a0, a1, a2, a3, a4, a5, a6, a7, l⟩ := i
  have hj0 : Ev (fun k => instr_Targets.j0 k true a0 a1 a2 a3 a4 a5 a6 a7 l) [] := Ev.succ (Ev.of_eq (Ev.const _) (fun k => by rw [instr_Targets.j0, if_pos rfl]))
  unfold instr_Targets.f tgt
  simp only at hl ⊢
  by_cases h1 : a0 = 41
  · subst h1
    rw [if_pos rfl]
    refine Ev.bind (iright41 a1 a2 a3 a4 a5 a6 a7 l) (Ev.ite (fun h => ?_) (fun h => ?_))
    · rw [if_pos h]
      refine Ev.of_eq (g := fun k => instr_Targets.j0 k false 41 a1 a2 a3 a4 a5 a6 a7 l) (Ev.succ (Ev.of_eq (Ev.const _) (fun k => by rw [instr_Targets.j0, if_neg (by simp), if_pos rfl]))) (fun k => rfl)
    · rw [if_neg h]; exact hj0
  rw [if_neg h1]
  by_cases h2 : a0 = 42
  · subst h2
    rw [if_pos rfl]
    refine Ev.bind (iright42 a1 a2 a3 a4 a5 a6 a7 l) (Ev.ite (fun h => ?_) (fun h => ?_))
    · rw [if_pos h]
      refine Ev.of_eq (g := fun k => instr_Targets.j0 k false 42 a1 a2 a3 a4 a5 a6 a7 l) (Ev.succ (Ev.of_eq (Ev.const _) (fun k => by rw [instr_Targets.j0, if_neg (by simp), if_neg (by decide)]))) (fun k => rfl)
    · rw [if_neg h]; exact hj0
  rw [if_neg h2]
  obtain ⟨b, hb⟩ := iright_tot a0 a1 a2 a3 a4 a5 a6 a7 l hl
  refine Ev.bind hb (Ev.ite (fun h => ?_) (fun h => hj0))
  by_cases h3 : a0 ≥ 41
  · by_cases h4 : a0 ≤ 43
    · obtain rfl : a0 = 43 := by omega
      exact Ev.of_eq hj0 (fun k => rfl)
    · exact Ev.of_eq hj0 (fun k => by rw [instr_Ends.f, if_pos h3, Option.bind_some, if_neg (by simpa using h4)])
  · exact Ev.of_eq hj0 (fun k => by rw [instr_Ends.f, if_neg h3, Option.bind_some, if_neg (by simp)])
theorem rtargets_ev (i : S50) : Ev (fun k => balustraderef15_Targets.f k i.f0 i.f1 i.f2 i.f3 i.f4 i.f5 i.f6 i.f7 i.f8) (tgt i) := by
  obtain ⟨a0, a1, a2, a3, a4, a5, a6, a7, l⟩ := i
  unfold balustraderef15_Targets.f tgt
  simp only
  by_cases h1 : a0 = 41
  · subst h1
    rw [if_pos rfl]
    refine Ev.bind (rright41 a1 a2 a3 a4 a5 a6 a7 l) (Ev.ite (fun h => ?_) (fun h => ?_))
    · rw [if_pos h]
      exact Ev.succ (Ev.of_eq (Ev.const _) (fun k => by rw [balustraderef15_Targets.j0, if_pos (by decide)]))
    · rw [if_neg h]
      refine Ev.succ (Ev.of_eq (g := fun k => (balustraderef15_Right.f k 41 a1 a2 a3 a4 a5 a6 a7 l).bind _) (Ev.bind (rright41 a1 a2 a3 a4 a5 a6 a7 l) ?_) (fun k => by rw [balustraderef15_Targets.j0, if_neg (by simp)]))
      exact Ev.of_eq (Ev.const _) (fun k => by rw [if_neg h])
  rw [if_neg h1]
  have hb1 : (a0 == 41) = false := beq_eq_false_iff_ne.2 h1
  have hj : ∀ b, Ev (fun k => balustraderef15_Right.f k a0 a1 a2 a3 a4 a5 a6 a7 l) b → Ev (fun k => balustraderef15_Targets.j0 k false a0 a1 a2 a3 a4 a5 a6 a7 l) (if b = true then (if a0 = 42 then [a5, a6] else []) else []) := fun b hb => by
    refine Ev.succ (Ev.of_eq (g := fun k => (balustraderef15_Right.f k a0 a1 a2 a3 a4 a5 a6 a7 l).bind _) (Ev.bind hb ?_) (fun k => by rw [balustraderef15_Targets.j0, if_neg (by simp)]))
    refine Ev.of_eq (Ev.const _) (fun k => ?_)
    repeat' split
    all_goals rfl
  have go : ∀ b, Ev (fun k => balustraderef15_Right.f k a0 a1 a2 a3 a4 a5 a6 a7 l) b → Ev (fun k => (balustraderef15_Right.f k a0 a1 a2 a3 a4 a5 a6 a7 l).bind fun t286 => (if t286 = true then (balustraderef15_Targets.j0 k (a0 == 41) a0 a1 a2 a3 a4 a5 a6 a7 l) else (balustraderef15_Targets.j0 k false a0 a1 a2 a3 a4 a5 a6 a7 l))) (if b = true then (if a0 = 42 then [a5, a6] else []) else []) := fun b hb => by
    refine Ev.bind hb ?_
    rw [hb1]
    exact Ev.ite (fun _ => hj b hb) (fun _ => hj b hb)
  by_cases h2 : a0 = 42
  · subst h2
    rw [if_pos rfl]
    have := go _ (rright42 a1 a2 a3 a4 a5 a6 a7 l)
    rw [if_pos rfl] at this
    exact this
  · rw [if_neg h2]
    obtain ⟨b, hb⟩ := rright_tot a0 a1 a2 a3 a4 a5 a6 a7 l
    have := go b hb
    rw [if_neg h2, ite_self] at this
    exact this
end Go.Proofs.Ytjibojmbhbaneaa.PRm
