/- Plain law: what the program's graph and dom tell of a function's edges. -/
import Derived.Test.YtjibojmbhbaneaaXPSuccs3
import Derived.Test.YtjibojmbhbaneaaXDom
import Derived.Test.YtjibojmbhbaneaaPRmx5
namespace Go.Proofs.Ytjibojmbhbaneaa.PRm
open Go.RowKit Go.Proofs.YtjibojmbhbaneaaW.PrintWords Go.Proofs.YtjibojmbhbaneaaW.PrintLast Go.Proofs.YtjibojmbhbaneaaW.PrintMore Go.Proofs.Ytjibojmbhbaneaa.X Go.Proofs.Ytjibojmbhbaneaa.Dm
set_option linter.unusedVariables false
set_option linter.unusedSimpArgs false
theorem rev_l0 : ∀ (n : Nat) (M A B : List Int), M.length ≤ n → A.length = B.length → A.length + M.length + B.length ≤ 1000000000 → Ev (fun k => slices_Reverse_int_int.l0 k (A ++ M ++ B) (A.length : Int) ((A.length : Int) + (M.length : Int) - 1)) (A ++ M.reverse ++ B)
  | n, [], A, B, _, _, _ => Ev.succ (Ev.of_eq (Ev.const _) fun k => by rw [slices_Reverse_int_int.l0, if_neg (by simp; omega)]; simp)
  | n, [a], A, B, _, _, _ => Ev.succ (Ev.of_eq (Ev.const _) fun k => by rw [slices_Reverse_int_int.l0, if_neg (by simp)]; simp)
  | 0, a :: b :: M, A, B, h, _, _ => absurd h (by simp)
  | n + 1, a :: b :: M, A, B, h, hAB, hs => by
    obtain ⟨M', z, hM⟩ : ∃ M' z, b :: M = M' ++ [z] := ⟨(b :: M).dropLast, (b :: M).getLast (by simp), (List.dropLast_concat_getLast (by simp)).symm⟩
    rw [hM] at h hs ⊢
    simp only [List.length_cons, List.length_append, List.length_nil] at h hs
    have ih := rev_l0 n M' (A ++ [z]) (a :: B) (by omega) (by simp; omega) (by simp; omega)
    have e3 : (A ++ [z]) ++ M'.reverse ++ (a :: B) = A ++ (a :: (M' ++ [z])).reverse ++ B := by simp
    rw [e3] at ih
    have e1 : rd (A ++ (a :: (M' ++ [z])) ++ B) (A.length : Int) = a := by simp [rd, List.getD]
    have e2 : rd (A ++ (a :: (M' ++ [z])) ++ B) ((A.length : Int) + ((a :: (M' ++ [z])).length : Int) - 1) = z := by
      have : ((A.length : Int) + ((a :: (M' ++ [z])).length : Int) - 1).toNat = A.length + (M'.length + 1) := by simp; omega
      unfold rd
      rw [this]
      simp [List.getD, List.getElem?_append, List.getElem?_cons]
    refine Ev.succ (Ev.of_eq ih fun k => ?_)
    rw [slices_Reverse_int_int.l0, if_pos (by simp; omega), if_pos (by simp; omega), if_pos (by simp; omega), if_pos (by omega), if_pos (by simp; omega), e1, e2]
    have w1 : wrap64 ((A.length : Int) + 1) = ((A ++ [z]).length : Int) := by unfold wrap64; simp; omega
    have w2 : wrap64 ((A.length : Int) + ((a :: (M' ++ [z])).length : Int) - 1 - 1) = ((A ++ [z]).length : Int) + (M'.length : Int) - 1 := by unfold wrap64; simp; omega
    have s1 : ((A ++ (a :: (M' ++ [z])) ++ B).set (A.length : Int).toNat z).set ((A.length : Int) + ((a :: (M' ++ [z])).length : Int) - 1).toNat a = (A ++ [z]) ++ M' ++ (a :: B) := by
      have t1 : ((A.length : Int) + ((a :: (M' ++ [z])).length : Int) - 1).toNat = A.length + (M'.length + 1) := by simp; omega
      rw [t1, Int.toNat_natCast, List.append_assoc, List.set_append_right _ _ (Nat.le_refl _), Nat.sub_self, List.cons_append, List.set_cons_zero, List.set_append_right _ _ (by omega)]
      rw [show A.length + (M'.length + 1) - A.length = M'.length + 1 by omega, List.set_cons_succ, List.append_assoc, List.set_append_right _ _ (Nat.le_refl _), Nat.sub_self]
      simp
    rw [w1, w2, s1]
theorem rev_ev (l : List Int) (h : l.length ≤ 1000000000) : Ev (fun k => slices_Reverse_int_int.f k l) l.reverse := by
  have := rev_l0 l.length l [] [] (Nat.le_refl _) rfl (by simpa using h)
  simp only [List.nil_append, List.append_nil, List.length_nil] at this
  refine Ev.of_eq this fun k => ?_
  rw [slices_Reverse_int_int.f]
  congr 1
  unfold wrap64
  omega
section
variable (bs : List (List (S50)))
theorem edges_len : (edges bs).length = bs.length := by simp [edges]
theorem edges_get (j : Nat) (h : j < bs.length) : (edges bs).getD j [] = erow bs.length bs[j] := by simp [edges, List.getD, h]
theorem erow_mem {n : Nat} {b : List (S50)} {t : Int} (h : t ∈ erow n b) : 0 ≤ t ∧ t < (n : Int) := by
  unfold erow at h
  split at h
  · simp at h
  · rw [List.mem_filter] at h
    exact ⟨tgt_nn _ _ h.1, by simpa using h.2⟩
theorem erow_nd (n : Nat) (b : List (S50)) : (erow n b).Nodup := by
  unfold erow
  split
  · simp
  · exact (tgt_nd _).sublist List.filter_sublist
theorem edges_ok : EOk (edges bs) := fun a b ⟨h0, h1, h2⟩ => by
  rw [edges_len] at h1 ⊢
  rw [edges_get bs a.toNat (by omega)] at h2
  exact erow_mem h2
theorem edges_nd (j : Nat) : ((edges bs).getD j []).Nodup := by
  by_cases h : j < bs.length
  · rw [edges_get bs j h]; exact erow_nd _ _
  · rw [List.getD_eq_getElem?_getD, List.getElem?_eq_none (by rw [edges_len]; omega)]
    simp
/-- Who goes to a block, in order, of the first j. -/
def predsTo (s : List (List Int)) (j b : Nat) : List Int := ((List.range j).filter fun i => decide ((b : Int) ∈ s.getD i [])).map fun i : Nat => (i : Int)
def predsOf (s : List (List Int)) : List (List Int) := (List.range s.length).map (predsTo s s.length)
theorem predsTo_succ (s : List (List Int)) (j b : Nat) : predsTo s (j + 1) b = predsTo s j b ++ (if (b : Int) ∈ s.getD j [] then [(j : Int)] else []) := by
  unfold predsTo
  rw [List.range_succ, List.filter_append, List.map_append]
  congr 1
  by_cases h : (b : Int) ∈ s.getD j []
  · rw [if_pos h, List.filter_cons_of_pos (by simpa using h)]; rfl
  · rw [if_neg h, List.filter_cons_of_neg (by simpa using h)]; rfl
theorem predsTo_len (s : List (List Int)) (j b : Nat) : (predsTo s j b).length ≤ j := by
  unfold predsTo
  rw [List.length_map]
  exact Nat.le_trans (List.length_filter_le _ _) (by simp)
theorem preds_row (n j : Nat) (f : Nat → List Int) (hf : ∀ b, (f b).length < 17592186044415) : ∀ (l : List Int) (out : List (List Int)) (seen : List Int), out.length = n → (∀ t, t ∈ l → 0 ≤ t ∧ t < (n : Int)) → (seen ++ l).Nodup →
    (∀ b : Nat, b < n → out.getD b [] = f b ++ (if (b : Int) ∈ seen then [(j : Int)] else [])) → ∃ out', preds.row (j : Int) l out = some out' ∧ out'.length = n ∧ ∀ b : Nat, b < n → out'.getD b [] = f b ++ (if (b : Int) ∈ seen ++ l then [(j : Int)] else [])
  | [], out, seen, hl, _, _, h => ⟨out, rfl, hl, fun b hb => by rw [h b hb, List.append_nil]⟩
  | t :: l, out, seen, hl, ht, hnd, h => by
    obtain ⟨t0, t1⟩ := ht t (by simp)
    have htn : t ∉ seen := fun hs => by
      rw [List.nodup_append] at hnd
      exact hnd.2.2 t hs t (by simp) rfl
    have htt : ((t.toNat : Nat) : Int) = t := Int.toNat_of_nonneg t0
    have hcur : out.getD t.toNat [] = f t.toNat := by
      rw [h t.toNat (by omega), htt, if_neg htn, List.append_nil]
    obtain ⟨out', e, hl', h'⟩ := preds_row n j f hf l (out.set t.toNat (out.getD t.toNat [] ++ [(j : Int)])) (seen ++ [t]) (by rw [List.length_set]; exact hl) (fun u hu => ht u (by simp [hu])) (by rw [List.append_assoc]; exact hnd) (fun b hb => by
      by_cases e : b = t.toNat
      · subst e
        rw [List.getD_eq_getElem?_getD, List.getElem?_set_self (by omega), Option.getD_some, hcur, htt, if_pos (by simp)]
      · rw [List.getD_eq_getElem?_getD, List.getElem?_set_ne (fun h => e h.symm), ← List.getD_eq_getElem?_getD, h b hb]
        have : ((b : Int) ∈ seen ++ [t]) ↔ (b : Int) ∈ seen := by
          rw [List.mem_append, List.mem_singleton]
          exact or_iff_left (fun h => e (by omega))
        simp only [this])
    refine ⟨out', ?_, hl', fun b hb => by rw [h' b hb, List.append_assoc]; rfl⟩
    rw [preds.row, if_pos ⟨t0, by omega, by rw [hcur]; exact hf _⟩, e]
theorem preds_all (s : List (List Int)) (hs : EOk s) (hnd : ∀ j, (s.getD j []).Nodup) (hn : s.length ≤ 1000000) : ∀ (l : List (List Int)) (j : Nat) (out : List (List Int)), s.drop j = l → j + l.length = s.length → out.length = s.length → (∀ b : Nat, b < s.length → out.getD b [] = predsTo s j b) →
    preds.all l (j : Int) out = some (predsOf s)
  | [], j, out, hd, hj, hl, h => by
    rw [preds.all]
    congr 1
    apply List.ext_getElem
    · rw [hl]; simp [predsOf]
    · intro b h1 h2
      have hj' : j = s.length := by simpa using hj
      have := h b (by omega)
      rw [List.getD_eq_getElem?_getD, List.getElem?_eq_getElem h1, Option.getD_some, hj'] at this
      rw [this]
      simp [predsOf]
  | r :: l, j, out, hd, hj, hl, h => by
    have hjl : j < s.length := by simp at hj; omega
    have hr : s.getD j [] = r := by
      have := congrArg List.head? hd
      rw [List.head?_drop] at this
      simp at this
      rw [List.getD_eq_getElem?_getD, this]
      rfl
    obtain ⟨out', e, hl', h'⟩ := preds_row s.length j (predsTo s j) (fun b => by have := predsTo_len s j b; omega) r out [] hl (fun t ht => hs (j : Int) t ⟨by omega, by omega, by rw [Int.toNat_natCast, hr]; exact ht⟩) (by rw [List.nil_append, ← hr]; exact hnd j) (fun b hb => by rw [h b hb]; simp)
    have ih := preds_all s hs hnd hn l (j + 1) out' (by rw [← List.drop_drop, hd]; rfl) (by simp at hj; omega) hl' (fun b hb => by rw [h' b hb, predsTo_succ, hr]; rfl)
    rw [preds.all, e]
    exact ih
theorem predsOf_ok (s : List (List Int)) (hs : EOk s) : PrOk s (predsOf s) := by
  refine ⟨by simp [predsOf], fun b b0 b1 p => ?_⟩
  have hb : b.toNat < s.length := by omega
  have e : (predsOf s).getD b.toNat [] = predsTo s s.length b.toNat := by simp [predsOf, List.getD, hb]
  rw [e]
  unfold predsTo
  rw [List.mem_map]
  have hbt : ((b.toNat : Nat) : Int) = b := Int.toNat_of_nonneg b0
  constructor
  · rintro ⟨i, hi, rfl⟩
    rw [List.mem_filter, List.mem_range] at hi
    refine ⟨by omega, by omega, ?_⟩
    rw [Int.toNat_natCast, ← hbt]
    simpa using hi.2
  · rintro ⟨p0, p1, p2⟩
    refine ⟨p.toNat, ?_, Int.toNat_of_nonneg p0⟩
    rw [List.mem_filter, List.mem_range]
    exact ⟨by omega, by rw [hbt]; simpa using p2⟩
section
variable (a0 : ByteArray) (a1 a2 : Int) (l3 : List Int)
theorem preds_ev (hB : BOk bs) : Ev (fun k => graph_Preds.f k a0 a1 a2 l3 bs) (predsOf (edges bs)) := by
  have hn := hB.n
  have hl := edges_len bs
  unfold graph_Preds.f
  refine Ev.bind (isuccs_ev a0 a1 a2 l3 bs hB) (Ev.of_eq (Ev.const _) fun k => ?_)
  rw [if_pos (by omega)]
  refine preds_all (edges bs) (edges_ok bs) (edges_nd bs) (by omega) (edges bs) 0 _ rfl (by simp) (by simp [hl]) (fun b hb => ?_)
  rw [List.getD_eq_getElem?_getD, List.getElem?_replicate, if_pos (by omega)]
  rfl
/-- Who is reached, not through one. -/
theorem without_ev (hB : BOk bs) (h0 : 0 < bs.length) (but : Int) : ∃ seen, Ev (fun k => graph_Without.f k a0 a1 a2 l3 bs but) seen ∧ seen.length = bs.length ∧ ∀ i, 0 ≤ i → i < (bs.length : Int) → (rdOf false seen i = true ↔ Rc (edges bs) but i) := by
  have hn := hB.n
  have hl := edges_len bs
  obtain ⟨seen, out, e, h1, h2, _⟩ := go_spec (edges bs) but (edges_ok bs) (by omega) (by omega)
  refine ⟨seen, ?_, by omega, by rw [← hl]; exact h2⟩
  unfold graph_Without.f
  refine Ev.bind (isuccs_ev a0 a1 a2 l3 bs hB) (Ev.of_eq (Ev.const _) fun k => ?_)
  rw [if_pos (by omega), e]
  rfl
theorem reach_ev (hB : BOk bs) (h0 : 0 < bs.length) : ∃ seen, Ev (fun k => graph_Reach.f k a0 a1 a2 l3 bs) seen ∧ seen.length = bs.length ∧ ∀ i, 0 ≤ i → i < (bs.length : Int) → (rdOf false seen i = true ↔ Rc (edges bs) (-1) i) := by
  obtain ⟨seen, h1, h2⟩ := without_ev bs a0 a1 a2 l3 hB h0 (-1)
  exact ⟨seen, by unfold graph_Reach.f; exact Ev.bind h1 (Ev.const _), h2⟩
/-- The tree of next dominators, and an order's places. -/
theorem tree_ev (hB : BOk bs) (h0 : 0 < bs.length) : ∃ tree order place, Ev (fun k => dom_Tree.f k a0 a1 a2 l3 bs) tree ∧ Idom (edges bs) tree ∧ POk (edges bs) order place := by
  have hn := hB.n
  have hl := edges_len bs
  obtain ⟨seen, out, place, e, h1, h2, h3, h4, h5⟩ := place_ok (edges bs) (edges_ok bs) (by omega) (by omega)
  obtain ⟨K, hK⟩ := tree_spec (edges_ok bs) (by omega) h5 (predsOf_ok (edges bs) (edges_ok bs))
  obtain ⟨tree, ht, hI⟩ := hK K K (Nat.le_refl _) (Nat.le_refl _)
  refine ⟨tree, out.reverse, place, ?_, hI, h5⟩
  have hord : Ev (fun k => graph_Order.f k a0 a1 a2 l3 bs) out.reverse := by
    unfold graph_Order.f
    refine Ev.bind (isuccs_ev a0 a1 a2 l3 bs hB) (Ev.of_eq (rev_ev out (by omega)) fun k => ?_)
    rw [if_pos (by omega), e]
    rfl
  unfold dom_Tree.f
  refine Ev.bind hord (Ev.bind (preds_ev bs a0 a1 a2 l3 hB) ?_)
  have hl' : bs.length = (edges bs).length := hl.symm
  refine Ev.of_eq (g := fun k => dtree.rounds k (predsOf (edges bs)) place out.reverse k (List.replicate (edges bs).length (-1), List.replicate (edges bs).length false)) ⟨K, fun k hk => ?_⟩ fun k => ?_
  · have hm : ∀ n, K ≤ n → dtree.rounds n (predsOf (edges bs)) place out.reverse n (List.replicate (edges bs).length (-1), List.replicate (edges bs).length false) = some tree := fun n hn => by
      exact at_rounds (g := fun k => dtree.rounds k (predsOf (edges bs)) place out.reverse k (List.replicate (edges bs).length (-1), List.replicate (edges bs).length false)) (fun k => dtree.rounds_mono _ _ _ _ _ _) hn ht
    exact hm k hk
  · rw [if_pos (by omega), hl', h4]
    rfl
end
end
end Go.Proofs.Ytjibojmbhbaneaa.PRm
