/- The plain law of RimJoins. -/
import Derived.Test.YtjibojmbhbaneaaXPJoins
import Derived.Test.YtjibojmbhbaneaaXPureRimAll
import Derived.Test.YtjibojmbhbaneaaPRmx13
import Derived.Test.YtjibojmbhbaneaaPRmx8
namespace Go.Proofs.Ytjibojmbhbaneaa.PRm
open Go.RowKit Go.Proofs.YtjibojmbhbaneaaW.PrintWords Go.Proofs.YtjibojmbhbaneaaW.PrintLast Go.Proofs.YtjibojmbhbaneaaW.PrintMore Go.Proofs.Ytjibojmbhbaneaa.X Go.Proofs.Ytjibojmbhbaneaa.Dm
set_option linter.unusedVariables false
set_option linter.unusedSimpArgs false
theorem worksJ_ev : Ev (fun k => balustradelaw29_works.f k) true := ⟨40, works29⟩
def lens (bs : List (List (S50))) (j : Nat) : Nat := ((bs.take j).map List.length).sum
theorem lens_succ (bs : List (List (S50))) (j : Nat) (h : j < bs.length) : lens bs (j + 1) = lens bs j + bs[j].length := by
  unfold lens
  rw [List.take_succ_eq_append_getElem h, List.map_append, List.sum_append]
  simp
theorem lens_le (bs : List (List (S50))) (hb : ∀ b, b ∈ bs → b.length ≤ 140737488351232) : ∀ j, j ≤ bs.length → lens bs j ≤ j * 140737488351232
  | 0, _ => by simp [lens]
  | j + 1, h => by
    rw [lens_succ bs j (by omega)]
    have := lens_le bs hb j (by omega)
    have := hb _ (List.getElem_mem (show j < bs.length by omega))
    omega
theorem lens_mono (bs : List (List (S50))) : ∀ m j, j + m ≤ bs.length → lens bs j ≤ lens bs (j + m)
  | 0, j, _ => Nat.le_refl _
  | m + 1, j, h => by
    have := lens_mono bs m j (by omega)
    rw [← Nat.add_assoc, lens_succ bs (j + m) (by omega)]
    omega
theorem lens_ge (bs : List (List (S50))) (j : Nat) (h : j < bs.length) : bs[j].length ≤ lens bs bs.length := by
  have h1 := lens_succ bs j h
  have h2 := lens_mono bs (bs.length - (j + 1)) (j + 1) (by omega)
  rw [show j + 1 + (bs.length - (j + 1)) = bs.length by omega] at h2
  omega
section
variable (bs : List (List (S50))) (a0 : ByteArray) (a1 a2 : Int) (l3 : List Int)
theorem few_l0 (h40 : bs.length ≤ 40) (hb : ∀ b, b ∈ bs → b.length ≤ 140737488351232) : ∀ m j, m = bs.length - j → j ≤ bs.length → Ev (fun k => balustraderef17_Few.l0 k (lens bs j : Int) (j : Int) a0 a1 a2 l3 bs) (decide (lens bs bs.length ≤ 300))
  | 0, j, hm, hj => by
    have e : j = bs.length := by omega
    subst e
    refine Ev.succ (Ev.of_eq (Ev.const _) fun k => ?_)
    rw [balustraderef17_Few.l0, if_neg (by omega), if_pos (by omega)]
    congr 1
    rw [decide_eq_decide]
    omega
  | m + 1, j, hm, hj => by
    have hlt : j < bs.length := by omega
    have h1 := lens_le bs hb j hj
    have h2 := hb _ (List.getElem_mem hlt)
    refine Ev.succ (Ev.of_eq (few_l0 h40 hb m (j + 1) (by omega) (by omega)) fun k => ?_)
    rw [balustraderef17_Few.l0, if_pos (by omega), if_pos (by omega), wr1 j (by omega), rdL4_nat bs j hlt, lens_succ bs j hlt]
    congr 1
    unfold wrap64
    omega
/-- Few blocks, with little in each. -/
theorem fewF_ev (hn : bs.length ≤ 140737488351232) (hb : ∀ b, b ∈ bs → b.length ≤ 140737488351232) : ∃ r, Ev (fun k => balustraderef17_Few.f k a0 a1 a2 l3 bs) r ∧ (r = true → bs.length ≤ 40 ∧ ∀ b, b ∈ bs → b.length ≤ 300) := by
  by_cases h40 : bs.length ≤ 40
  · refine ⟨_, Ev.of_eq (few_l0 bs a0 a1 a2 l3 h40 hb _ 0 rfl (by omega)) fun k => by rw [balustraderef17_Few.f]; rfl, fun h => ⟨h40, fun b hbm => ?_⟩⟩
    obtain ⟨j, hj, rfl⟩ := List.getElem_of_mem hbm
    have := lens_ge bs j hj
    simp at h
    omega
  · have hf : ∀ m j (x : Int), m = bs.length - j → j ≤ bs.length → Ev (fun k => balustraderef17_Few.l0 k x (j : Int) a0 a1 a2 l3 bs) false := by
      intro m
      induction m with
      | zero => intro j x hm hj; exact Ev.succ (Ev.of_eq (Ev.const _) fun k => by rw [balustraderef17_Few.l0, if_neg (by omega), if_neg (by omega)])
      | succ m ih => intro j x hm hj; exact Ev.succ (Ev.of_eq (ih (j + 1) (wrap64 (x + ((rd_L4 bs (j : Int)).length : Int))) (by omega) (by omega)) fun k => by rw [balustraderef17_Few.l0, if_pos (by omega), if_pos (by omega), wr1 j (by omega)])
    exact ⟨false, Ev.of_eq (hf _ 0 0 rfl (by omega)) fun k => by rw [balustraderef17_Few.f]; rfl, fun h => absurd h (by simp)⟩
theorem j1_true (x y z : Int) : Ev (fun k => balustradelaw29_RimJoins.j1 k x y z true a0 a1 a2 l3 bs) true :=
  Ev.succ (Ev.of_eq (Ev.bind worksJ_ev (Ev.const _)) fun k => by rw [balustradelaw29_RimJoins.j1, if_pos rfl])
theorem j0_true (x y z : Int) : Ev (fun k => balustradelaw29_RimJoins.j0 k x y z true a0 a1 a2 l3 bs) true :=
  Ev.succ (Ev.of_eq (Ev.bind worksJ_ev (Ev.const _)) fun k => by rw [balustradelaw29_RimJoins.j0, if_pos rfl])
theorem sorted_mem {x : Int} {l : List Int} (h : x ∈ l) : x ∈ sorted l := (List.mergeSort_perm l _).mem_iff.2 h
theorem sorted_len (l : List Int) : (sorted l).length = l.length := (List.mergeSort_perm l _).length_eq
theorem j1_false (hB : BOk bs) (h0 : 0 < bs.length) (h9 : bs.length ≤ 9) (x y z : Int) (hx : Rc (edges bs) (-1) x) (hy : Rc (edges bs) (-1) y) (hj : JoinOk (edges bs) x y z) : Ev (fun k => balustradelaw29_RimJoins.j1 k x y z false a0 a1 a2 l3 bs) true := by
  have hok := edges_ok bs
  have hl := edges_len bs
  obtain ⟨rm, r1, r2, r3⟩ := rims_ev bs a0 a1 a2 l3 hB h0
  obtain ⟨tree, order, place, _, _, hP⟩ := tree_ev bs a0 a1 a2 l3 hB h0
  obtain ⟨r, q1, q2, q3, _⟩ := rim_All_ev rm [x, y, 0] (by omega) (by simp)
  obtain ⟨A, wa, B, wb, w1, w2, w3, w4, w5⟩ := hj
  have cl : ∀ k p u, (u = x ∨ u = y ∨ u ∈ r) → Rc (edges bs) (-1) k → E (edges bs) p k → Dom (edges bs) u p → (u = k ∨ ¬ Dom (edges bs) u k) → k ∈ r := fun k p u hu hk hp hd hn => by
    have hur := hd.reach.range hok (by omega)
    have hkr := hk.range hok (by omega)
    refine q3 u k ?_ ⟨hur.1, by omega⟩ (r3 k p u hk hp hd hn) ⟨hkr.1, by omega⟩
    rcases hu with h | h | h
    · exact .inl (by simp [h])
    · exact .inl (by simp [h])
    · exact .inr h
  have hz : z ∈ r := meets hP (J := fun k => k ∈ r) hok hx hy (fun k p u hu => cl k p u (hu.elim .inl (fun h => .inr (.inr h)))) (fun k p u hu => cl k p u (hu.elim (fun h => .inr (.inl h)) (fun h => .inr (.inr h)))) w1 w2 w3 w4 w5
  have hlen := q2.le
  have h5 := HasInt_ev (sorted r) z (by rw [sorted_len]; omega)
  rw [decide_eq_true (sorted_mem hz)] at h5
  refine Ev.succ (Ev.of_eq (g := fun k => (rim_Rims.f k a0 a1 a2 l3 bs).bind _) (Ev.bind r1 (Ev.bind q1 (Ev.bind h5 (Ev.of_eq (Ev.bind worksJ_ev (Ev.const _)) fun k => if_pos rfl)))) fun k => by rw [balustradelaw29_RimJoins.j1, if_neg (by simp)])
theorem RimJoins_pure (hn : bs.length ≤ 140737488351232) (hb : ∀ b, b ∈ bs → b.length ≤ 140737488351232) (ha : ∀ b, b ∈ bs → ∀ i, i ∈ b → i.f8.length ≤ 9223372036854775807) (x y z : Int) (hx : 0 ≤ x ∧ x < 256) (hy : 0 ≤ y ∧ y < 256) (hz : 0 ≤ z ∧ z < 256) : ∃ k, balustradelaw29_RimJoins.f k a0 a1 a2 l3 bs x y z = some true := by
  suffices h : Ev (fun k => balustradelaw29_RimJoins.f k a0 a1 a2 l3 bs x y z) true by
    obtain ⟨K, h⟩ := h
    exact ⟨K, h K (Nat.le_refl _)⟩
  obtain ⟨r, f1, f2⟩ := fewF_ev bs a0 a1 a2 l3 hn hb
  unfold balustradelaw29_RimJoins.f
  have hfew : Ev (fun k => balustradelaw29_few.f k a0 a1 a2 l3 bs) (if r = true then decide ((bs.length : Int) ≤ 12) else false) := by
    unfold balustradelaw29_few.f
    refine Ev.bind f1 (Ev.of_eq (Ev.const _) fun k => ?_)
    split <;> rfl
  refine Ev.bind hfew ?_
  by_cases hr : r = true
  case neg => exact Ev.of_eq (j0_true bs a0 a1 a2 l3 x y z) fun k => by rw [if_neg hr, if_neg (by simp)]
  obtain ⟨g1, g2⟩ := f2 hr
  by_cases h12 : (bs.length : Int) ≤ 12
  case neg => exact Ev.of_eq (j0_true bs a0 a1 a2 l3 x y z) fun k => by rw [if_pos hr, decide_eq_false h12, if_neg (by simp)]
  by_cases h0 : (bs.length : Int) = 0
  · exact Ev.of_eq (j0_true bs a0 a1 a2 l3 x y z) fun k => by rw [if_pos hr, decide_eq_true h12, if_pos rfl, if_pos h0]
  by_cases h9 : (bs.length : Int) > 9
  · exact Ev.of_eq (j0_true bs a0 a1 a2 l3 x y z) fun k => by rw [if_pos hr, decide_eq_true h12, if_pos rfl, if_neg h0, decide_eq_true h9]
  refine Ev.of_eq (g := fun k => balustradelaw29_RimJoins.j0 k x y z false a0 a1 a2 l3 bs) ?_ fun k => by rw [if_pos hr, decide_eq_true h12, if_pos rfl, if_neg h0, decide_eq_false h9]
  have hB : BOk bs := ⟨by omega, fun b hb => by have := g2 b hb; omega, ha⟩
  obtain ⟨seen, s1, s2, s3⟩ := rreach_ev bs a0 a1 a2 l3 hB
  have hm : ∀ v : Int, 0 ≤ v ∧ v < 256 → 0 ≤ Int.tmod (wrap64 v) (bs.length : Int) ∧ Int.tmod (wrap64 v) (bs.length : Int) < (bs.length : Int) := fun v hv => by
    have hw : wrap64 v = v := by unfold wrap64; omega
    rw [hw, Int.tmod_eq_emod_of_nonneg hv.1]
    exact ⟨Int.emod_nonneg _ h0, Int.emod_lt_of_pos _ (by omega)⟩
  have hX := hm x hx
  have hY := hm y hy
  have hZ := hm z hz
  generalize hgx : Int.tmod (wrap64 x) (bs.length : Int) = X at *
  generalize hgy : Int.tmod (wrap64 y) (bs.length : Int) = Y at *
  generalize hgz : Int.tmod (wrap64 z) (bs.length : Int) = Z at *
  have hun : ∀ k, balustradelaw29_RimJoins.j0 (k + 1) x y z false a0 a1 a2 l3 bs = (balustraderef17_Reach.f k a0 a1 a2 l3 bs).bind fun t379 => (if 0 ≤ X then (if X < (t379.length : Int) then (if (rdOf false t379 X = true) then (if 0 ≤ Y then (if Y < (t379.length : Int) then (if (rdOf false t379 Y = true) then (if X = Y then (balustradelaw29_RimJoins.j1 k X Y Z true a0 a1 a2 l3 bs) else ((balustraderef29_Joins.f k a0 a1 a2 l3 bs X Y Z).bind fun t384 => (balustradelaw29_RimJoins.j1 k X Y Z (!t384) a0 a1 a2 l3 bs))) else (balustradelaw29_RimJoins.j1 k X Y Z true a0 a1 a2 l3 bs)) else (none)) else (none)) else (balustradelaw29_RimJoins.j1 k X Y Z true a0 a1 a2 l3 bs)) else (none)) else (none)) := fun k => by
    rw [balustradelaw29_RimJoins.j0, if_neg (by simp), if_neg h0, hgx, hgy, hgz]
  refine Ev.succ (Ev.of_eq (Ev.bind s1 ?_) hun)
  refine Ev.ite (fun _ => ?_) (fun h => absurd hX.1 h)
  refine Ev.ite (fun _ => ?_) (fun h => absurd (by omega) h)
  refine Ev.ite (fun hxs => ?_) (fun _ => j1_true bs a0 a1 a2 l3 X Y Z)
  refine Ev.ite (fun _ => ?_) (fun h => absurd hY.1 h)
  refine Ev.ite (fun _ => ?_) (fun h => absurd (by omega) h)
  refine Ev.ite (fun hys => ?_) (fun _ => j1_true bs a0 a1 a2 l3 X Y Z)
  refine Ev.ite (fun _ => j1_true bs a0 a1 a2 l3 X Y Z) (fun _ => ?_)
  obtain ⟨t, e1, e2⟩ := rjoins_says bs a0 a1 a2 l3 hB X Y Z hX hY
  refine Ev.bind e1 ?_
  cases t with
  | false => exact j1_true bs a0 a1 a2 l3 X Y Z
  | true => exact j1_false bs a0 a1 a2 l3 hB (by omega) (by omega) X Y Z ((s3 X hX.1 hX.2).1 hxs) ((s3 Y hY.1 hY.2).1 hys) (e2 rfl)
end
end Go.Proofs.Ytjibojmbhbaneaa.PRm
