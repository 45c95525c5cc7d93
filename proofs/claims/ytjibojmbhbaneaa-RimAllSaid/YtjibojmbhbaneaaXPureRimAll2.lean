/- The plain law of RimAll, second part: the reference's rim; the law's answer. -/
import Derived.Test.YtjibojmbhbaneaaXPureRimAll
namespace Go.Proofs.Ytjibojmbhbaneaa.PRm
open Go.RowKit Go.Proofs.YtjibojmbhbaneaaW.PrintWords Go.Proofs.YtjibojmbhbaneaaW.PrintLast Go.Proofs.YtjibojmbhbaneaaW.PrintMore Go.Proofs.Ytjibojmbhbaneaa.X
set_option linter.unusedVariables false
set_option linter.unusedSimpArgs false

theorem refAll_l2 (rims : List (List Int)) (l fr : List Int) (i q : Int) (hn : rims.length ≤ 30) (row : List Int) (hr : row.length ≤ 9223372036854775807) (R : List Int) :
    ∀ (m j : Nat) (out : List Int), m = row.length - j → j ≤ row.length → Good rims.length out →
    Ev (fun k => balustraderef29_All.l1 k rims l (addAll rims.length out (row.drop j)) i fr (wrap64 (q + 1))) R → Ev (fun k => balustraderef29_All.l2 k rims l out i fr q row (j : Int)) R
  | 0, j, out, hm, hj, hg, hR => by
    rw [List.drop_eq_nil_of_le (by omega)] at hR
    refine Ev.succ (Ev.of_eq hR fun k => ?_)
    rw [balustraderef29_All.l2, if_neg (by omega)]
    rfl
  | m + 1, j, out, hm, hj, hg, hR => by
    have hlt : j < row.length := by omega
    have h1 : (j : Int) < (row.length : Int) := by omega
    have h2 : (0 : Int) ≤ (j : Int) := by omega
    have hrd : rd row (j : Int) = row[j] := rd_nat row j hlt
    have hle := hg.le
    rw [List.drop_eq_getElem_cons hlt] at hR
    have hR2 : Ev (fun k => balustraderef29_All.l1 k rims l (addAll rims.length (addOne rims.length out row[j]) (row.drop (j + 1))) i fr (wrap64 (q + 1))) R := hR
    have ih := refAll_l2 rims l fr i q hn row hr R m (j + 1) (addOne rims.length out row[j]) (by omega) (by omega) (hg.one _) hR2
    refine Ev.succ ?_
    by_cases h3 : row[j] ≥ 0
    · by_cases h4 : row[j] < (rims.length : Int)
      · refine Ev.of_eq (Ev.bind (g := fun k t => if t = true then balustraderef29_All.l2 k rims l out i fr q row (wrap64 ((j : Int) + 1)) else if out.length < 17592186044416 then balustraderef29_All.l2 k rims l (out ++ [row[j]]) i fr q row (wrap64 ((j : Int) + 1)) else none) (HasInt_ev out row[j] (by omega)) ?_) fun k => ?_
        · by_cases h5 : row[j] ∈ out
          · rw [show addOne rims.length out row[j] = out from by rw [addOne, if_neg (fun h => h.2 h5)]] at ih
            simp only [h5, decide_true, if_true, wr1 j (by omega)]
            exact ih
          · rw [show addOne rims.length out row[j] = out ++ [row[j]] from by rw [addOne, if_pos ⟨⟨h3, h4⟩, h5⟩]] at ih
            have h6 : out.length < 17592186044416 := by omega
            simp only [h5, decide_false, Bool.false_eq_true, if_false, h6, if_true, wr1 j (by omega)]
            exact ih
        · rw [balustraderef29_All.l2, if_pos h1, if_pos h2, hrd, if_pos h3, if_pos h4]
      · rw [show addOne rims.length out row[j] = out from by rw [addOne, if_neg (fun h => h4 h.1.2)]] at ih
        refine Ev.of_eq ih fun k => ?_
        rw [balustraderef29_All.l2, if_pos h1, if_pos h2, hrd, if_pos h3, if_neg h4, wr1 j (by omega)]
    · rw [show addOne rims.length out row[j] = out from by rw [addOne, if_neg (fun h => h3 h.1.1)]] at ih
      refine Ev.of_eq ih fun k => ?_
      rw [balustraderef29_All.l2, if_pos h1, if_pos h2, hrd, if_neg h3, wr1 j (by omega)]

theorem refAll_l1 (rims : List (List Int)) (l fr : List Int) (i : Int) (hn : rims.length ≤ 30) (hrows : ∀ x ∈ rims, x.length ≤ 9223372036854775807) (hf : fr.length ≤ 9223372036854775807) (R : List Int) :
    ∀ (m j : Nat) (out : List Int), m = fr.length - j → j ≤ fr.length → Good rims.length out →
    Ev (fun k => balustraderef29_All.l0 k rims l (addFrom rims out (fr.drop j)) (wrap64 (i + 1))) R → Ev (fun k => balustraderef29_All.l1 k rims l out i fr (j : Int)) R
  | 0, j, out, hm, hj, hg, hR => by
    rw [List.drop_eq_nil_of_le (by omega)] at hR
    refine Ev.succ (Ev.of_eq hR fun k => ?_)
    rw [balustraderef29_All.l1, if_neg (by omega)]
    rfl
  | m + 1, j, out, hm, hj, hg, hR => by
    have hlt : j < fr.length := by omega
    have h1 : (j : Int) < (fr.length : Int) := by omega
    have h2 : (0 : Int) ≤ (j : Int) := by omega
    have hrd : rd fr (j : Int) = fr[j] := rd_nat fr j hlt
    rw [List.drop_eq_getElem_cons hlt] at hR
    have skip : ¬ okB rims.length fr[j] → Ev (fun k => balustraderef29_All.j2 k rims l out i fr (j : Int) true) R := by
      intro hk0
      have hR2 : Ev (fun k => balustraderef29_All.l0 k rims l (addFrom rims (if okB rims.length fr[j] then addAll rims.length out (rrow rims fr[j]) else out) (fr.drop (j + 1))) (wrap64 (i + 1))) R := hR
      rw [if_neg hk0] at hR2
      refine Ev.succ (Ev.of_eq (refAll_l1 rims l fr i hn hrows hf R m (j + 1) out (by omega) (by omega) hg hR2) fun k => ?_)
      rw [balustraderef29_All.j2, if_pos rfl, wr1 j (by omega)]
    refine Ev.succ ?_
    by_cases h3 : fr[j] < 0
    · refine Ev.of_eq (skip (fun h => by unfold okB at h; omega)) fun k => ?_
      rw [balustraderef29_All.l1, if_pos h1, if_pos h2, hrd, if_pos h3]
    · by_cases h4 : fr[j] ≥ (rims.length : Int)
      · refine Ev.of_eq (skip (fun h => by unfold okB at h; omega)) fun k => ?_
        rw [balustraderef29_All.l1, if_pos h1, if_pos h2, hrd, if_neg h3, decide_eq_true h4]
      · have hk0 : okB rims.length fr[j] := ⟨by omega, by omega⟩
        have hR2 : Ev (fun k => balustraderef29_All.l0 k rims l (addFrom rims (if okB rims.length fr[j] then addAll rims.length out (rrow rims fr[j]) else out) (fr.drop (j + 1))) (wrap64 (i + 1))) R := hR
        rw [if_pos hk0] at hR2
        have ih := refAll_l1 rims l fr i hn hrows hf R m (j + 1) (addAll rims.length out (rrow rims fr[j])) (by omega) (by omega) hg.all hR2
        have hrl : (rrow rims fr[j]).length ≤ 9223372036854775807 := by
          unfold okB at hk0
          have h5 : fr[j].toNat < rims.length := by omega
          rw [rrow, List.getD_eq_getElem?_getD, List.getElem?_eq_getElem h5]
          exact hrows _ (List.getElem_mem h5)
        rw [← wr1 j (by omega)] at ih
        have h6 := refAll_l2 rims l fr i (j : Int) hn (rrow rims fr[j]) hrl R _ 0 out rfl (by omega) hg (by rw [List.drop_zero]; exact ih)
        refine Ev.of_eq (Ev.succ (f := fun k => balustraderef29_All.j2 k rims l out i fr (j : Int) false) (Ev.of_eq h6 fun k => ?_)) fun k => ?_
        · rw [balustraderef29_All.j2, if_neg (by simp), if_pos h2, if_pos h1, hrd, if_pos (by omega), if_pos (by omega)]
          rfl
        · rw [balustraderef29_All.l1, if_pos h1, if_pos h2, hrd, if_neg h3, decide_eq_false h4]

theorem refAll_l0 (rims : List (List Int)) (l : List Int) (hn : rims.length ≤ 30) (hl : l.length ≤ 30) (hrows : ∀ x ∈ rims, x.length ≤ 9223372036854775807) :
    ∀ (m i : Nat) (out : List Int), m = rims.length + 1 - i → i ≤ rims.length + 1 → Good rims.length out → (Cl rims l (· ∈ out) ∨ i ≤ out.length) → (∀ S, Cl rims l S → ∀ x ∈ out, S x) →
    ∃ (r s : List Int), Ev (fun k => balustraderef29_All.l0 k rims l out (i : Int)) s ∧ s.Pairwise (· < ·) ∧ s.length ≤ 30 ∧ (∀ y, y ∈ s ↔ y ∈ r) ∧ Cl rims l (· ∈ r) ∧ ∀ S, Cl rims l S → ∀ x ∈ r, S x
  | 0, i, out, hm, hi, hg, hc, hS => by
    have hle := hg.le
    obtain ⟨s, s1, s2, s3, s4⟩ := Sorted_ev out (by omega)
    refine ⟨out, s, Ev.succ (Ev.of_eq (Ev.bind (g := fun _ t => some t) s1 (Ev.const _)) fun k => ?_), s2, by omega, s4, hc.resolve_right (by omega), hS⟩
    rw [balustraderef29_All.l0, if_neg (by omega)]
  | m + 1, i, out, hm, hi, hg, hc, hS => by
    have hle := hg.le
    have hgo := hg.fr (fr := l ++ out)
    have hgl := hgo.le
    have hsub : ∀ x, x ∈ out → x ∈ addFrom rims out (l ++ out) := fun x hx => mem_fr.2 (.inl hx)
    have hc2 : Cl rims l (· ∈ addFrom rims out (l ++ out)) ∨ i + 1 ≤ (addFrom rims out (l ++ out)).length := by
      have key : (∀ x, x ∈ addFrom rims out (l ++ out) → x ∈ out) → Cl rims l (· ∈ addFrom rims out (l ++ out)) := by
        intro hback a t ha hka ht hkt
        refine mem_fr.2 (.inr ⟨a, ?_, hka, ht, hkt⟩)
        rcases ha with ha | ha
        · exact List.mem_append_left _ ha
        · exact List.mem_append_right _ (hback a ha)
      rcases hc with hc | hc
      · refine .inl (key fun x hx => ?_)
        rcases mem_fr.1 hx with h | ⟨a, ha, hka, ht, hkt⟩
        · exact h
        · refine hc a x ?_ hka ht hkt
          rcases List.mem_append.1 ha with ha | ha
          · exact .inl ha
          · exact .inr ha
      · rcases Classical.em (∀ x, x ∈ addFrom rims out (l ++ out) → x ∈ out) with h | h
        · exact .inl (key h)
        · refine .inr ?_
          obtain ⟨x, hx⟩ := Classical.not_forall.1 h
          have hx1 : x ∈ addFrom rims out (l ++ out) := Classical.byContradiction fun h => hx (fun h' => absurd h' h)
          have hx2 : x ∉ out := fun h => hx (fun _ => h)
          have hgx : Good rims.length (out ++ [x]) := by
            have := hg.one x
            rw [addOne, if_pos ⟨hgo.2 x hx1, hx2⟩] at this
            exact this
          have h1 : ((out ++ [x]).map Int.toNat).Nodup := by
            rw [List.Nodup, List.pairwise_map]
            exact hgx.1.imp_of_mem (fun {a b} ha hb hne e => hne (by
              have h2 := hgx.2 a ha
              have h3 := hgx.2 b hb
              unfold okB at h2 h3
              omega))
          have h2 : ((out ++ [x]).map Int.toNat) ⊆ ((addFrom rims out (l ++ out)).map Int.toNat) := by
            intro y hy
            obtain ⟨z, hz, rfl⟩ := List.mem_map.1 hy
            refine List.mem_map.2 ⟨z, ?_, rfl⟩
            rcases List.mem_append.1 hz with hz | hz
            · exact hsub z hz
            · rw [List.mem_singleton] at hz; subst hz; exact hx1
          have h3 := len_of_sub h1 h2
          simp at h3
          omega
    have hS2 : ∀ S, Cl rims l S → ∀ x ∈ addFrom rims out (l ++ out), S x := by
      intro S hCl x hx
      rcases mem_fr.1 hx with h | ⟨a, ha, hka, ht, hkt⟩
      · exact hS S hCl x h
      · refine hCl a x ?_ hka ht hkt
        rcases List.mem_append.1 ha with ha | ha
        · exact .inl ha
        · exact .inr (hS S hCl a ha)
    obtain ⟨r, s, s1, s2⟩ := refAll_l0 rims l hn hl hrows m (i + 1) _ (by omega) (by omega) hgo hc2 hS2
    refine ⟨r, s, Ev.succ ?_, s2⟩
    rw [← wr1 i (by omega)] at s1
    have h7 := refAll_l1 rims l (l ++ out) (i : Int) hn hrows (by simp; omega) s _ 0 out rfl (by omega) hg (by rw [List.drop_zero]; exact s1)
    refine Ev.of_eq h7 fun k => ?_
    rw [balustraderef29_All.l0, if_pos (by omega), Ints_eq l (by omega)]
    show (if _ then _ else _) = _
    rw [if_pos (by omega)]
    rfl
theorem refAll_ev (rims : List (List Int)) (l : List Int) (hn : rims.length ≤ 30) (hl : l.length ≤ 30) (hrows : ∀ x ∈ rims, x.length ≤ 9223372036854775807) :
    ∃ (r s : List Int), Ev (fun k => balustraderef29_All.f k rims l) s ∧ s.Pairwise (· < ·) ∧ s.length ≤ 30 ∧ (∀ y, y ∈ s ↔ y ∈ r) ∧ Cl rims l (· ∈ r) ∧ ∀ S, Cl rims l S → ∀ x ∈ r, S x :=
  refAll_l0 rims l hn hl hrows _ 0 [] rfl (by omega) ⟨List.nodup_nil, by simp⟩ (.inr (by simp)) (by simp)

theorem works29_ev : Ev (fun k => balustradelaw29_works.f k) true := ⟨40, works29⟩
theorem RimAll_j1 (rims : List (List Int)) (l : List Int) (b : Bool) (hb : b = false → rims.length ≤ 30 ∧ l.length ≤ 30) (hrows : ∀ x ∈ rims, x.length ≤ 9223372036854775807) : Ev (fun k => balustradelaw29_RimAll.j1 k rims l b) true := by
  refine Ev.succ ?_
  cases b with
  | true =>
    refine Ev.of_eq (Ev.bind (g := fun _ t => some t) works29_ev (Ev.const _)) fun k => ?_
    rw [balustradelaw29_RimAll.j1, if_pos rfl]
  | false =>
    obtain ⟨hn, hl⟩ := hb rfl
    obtain ⟨met, m1, m2, m3, m4⟩ := rim_All_ev rims l hn hl
    obtain ⟨r, s, s1, s2, s2', s3, s4, s5⟩ := refAll_ev rims l hn hl hrows
    have hperm : (sorted met).Perm met := List.mergeSort_perm met _
    have hle : (sorted met).Pairwise (fun a b => decide (a ≤ b)) := List.pairwise_mergeSort (fun a b c h1 h2 => by simp at h1 h2 ⊢; omega) (fun a b => by simp; omega) met
    have hnd : (sorted met).Nodup := hperm.nodup_iff.2 m2.1
    have hlt : (sorted met).Pairwise (· < ·) := (hle.and hnd).imp (fun {a b} h => by
      have h1 : a ≤ b := by simpa using h.1
      have h2 := h.2
      omega)
    have heq : sorted met = s := asc_eq hlt s2 fun y => by
      rw [hperm.mem_iff, s3]
      exact ⟨fun h => m4 _ s4 y h, fun h => s5 _ m3 y h⟩
    rw [heq] at m1
    refine Ev.of_eq (Ev.bind (g := fun k t => (balustraderef29_All.f k rims l).bind fun t264 => (balustradebase_SameInts.f k t t264).bind fun t267 => if t267 = true then (balustradelaw29_works.f k).bind fun t268 => some t268 else some false) m1
      (Ev.bind (g := fun k t264 => (balustradebase_SameInts.f k s t264).bind fun t267 => if t267 = true then (balustradelaw29_works.f k).bind fun t268 => some t268 else some false) s1
        (Ev.bind (g := fun k t267 => if t267 = true then (balustradelaw29_works.f k).bind fun t268 => some t268 else some false) (SameInts_ev s (by omega))
          (Ev.of_eq (Ev.bind (g := fun _ t => some t) works29_ev (Ev.const _)) fun k => by rw [if_pos rfl])))) fun k => ?_
    rw [balustradelaw29_RimAll.j1, if_neg (by simp)]
theorem RimAll_l0 (rims : List (List Int)) (l : List Int) (hr : rims.length ≤ 9223372036854775807) (hrows : ∀ x ∈ rims, x.length ≤ 9223372036854775807) : ∀ (m j : Nat) (n : Int), m = rims.length - j → j ≤ rims.length → Ev (fun k => balustradelaw29_RimAll.l0 k rims l n (j : Int)) true
  | 0, j, n, hm, hj => by
    refine Ev.succ ?_
    by_cases h1 : (rims.length : Int) > 30
    · refine Ev.of_eq (RimAll_j1 rims l true (by simp) hrows) fun k => ?_
      rw [balustradelaw29_RimAll.l0, if_neg (by omega), if_pos h1]
    · by_cases h2 : n > 200
      · refine Ev.of_eq (RimAll_j1 rims l true (by simp) hrows) fun k => ?_
        rw [balustradelaw29_RimAll.l0, if_neg (by omega), if_neg h1, if_pos h2]
      · refine Ev.of_eq (RimAll_j1 rims l (decide ((l.length : Int) > 30)) (fun h => by simp at h; omega) hrows) fun k => ?_
        rw [balustradelaw29_RimAll.l0, if_neg (by omega), if_neg h1, if_neg h2]
  | m + 1, j, n, hm, hj => by
    refine Ev.succ (Ev.of_eq (RimAll_l0 rims l hr hrows m (j + 1) (wrap64 (n + ((rd_L2 rims (j : Int)).length : Int))) (by omega) (by omega)) fun k => ?_)
    rw [balustradelaw29_RimAll.l0, if_pos (by omega), if_pos (by omega), wr1 j (by omega)]
theorem RimAll_pure (rims : List (List Int)) (l : List Int) (hr : rims.length ≤ 9223372036854775807) (hrows : ∀ x ∈ rims, x.length ≤ 9223372036854775807) : ∃ k, balustradelaw29_RimAll.f k rims l = some true := by
  obtain ⟨K, hK⟩ := RimAll_l0 rims l hr hrows _ 0 0 rfl (by omega)
  exact ⟨K, hK K (Nat.le_refl _)⟩
end Go.Proofs.Ytjibojmbhbaneaa.PRm
