/- Plain law: both programs' edges are one list: the loops. -/
import Derived.Test.YtjibojmbhbaneaaXPSuccs2
namespace Go.Proofs.Ytjibojmbhbaneaa.PRm
open Go.RowKit Go.Proofs.YtjibojmbhbaneaaW.PrintWords Go.Proofs.YtjibojmbhbaneaaW.PrintLast Go.Proofs.YtjibojmbhbaneaaW.PrintMore Go.Proofs.Ytjibojmbhbaneaa.X
set_option linter.unusedVariables false
set_option linter.unusedSimpArgs false
/-- A block's edges. -/
def erow (n : Nat) (b : List (S50)) : List Int := match b.getLast? with
  | none => []
  | some i => (tgt i).filter fun t => decide (t < (n : Int))
def edges (bs : List (List (S50))) : List (List Int) := bs.map (erow bs.length)
/-- What a program's blocks may be. -/
structure BOk (bs : List (List (S50))) : Prop where
  n : bs.length ≤ 1000000
  b : ∀ b, b ∈ bs → b.length ≤ 1000000
  a : ∀ b, b ∈ bs → ∀ i, i ∈ b → i.f8.length ≤ 9223372036854775807
theorem erow_len (n : Nat) (b : List (S50)) : (erow n b).length ≤ 2 := by
  unfold erow
  split
  · simp
  · exact Nat.le_trans (List.length_filter_le _ _) (tgt_len _)
theorem rdL4_nat (bs : List (List (S50))) (j : Nat) (h : j < bs.length) : rd_L4 bs (j : Int) = bs[j] := by simp [rd_L4, List.getD, h]
theorem rdT_nat (b : List (S50)) (j : Nat) (h : j < b.length) : rd_T50 b (j : Int) = b[j] := by simp [rd_T50, List.getD, h]
theorem rdL2_nat (x : List (List Int)) (j : Nat) (h : j < x.length) : rd_L2 x (j : Int) = x[j] := by simp [rd_L2, List.getD, h]
theorem wrm1 (j : Nat) (h : j < 9223372036854775807) (h0 : 0 < j) : wrap64 ((j : Int) - 1) = ((j - 1 : Nat) : Int) := by unfold wrap64; omega
theorem last_eq {b : List (S50)} (h : 0 < b.length) : b.getLast? = some (b[b.length - 1]'(by omega)) := by
  rw [List.getLast?_eq_getElem?, List.getElem?_eq_getElem]
theorem filter_drop (p : Int → Bool) (t : List Int) (q : Nat) (h : q < t.length) : (t.drop q).filter p = (if p t[q] = true then [t[q]] else []) ++ (t.drop (q + 1)).filter p := by
  rw [List.drop_eq_getElem_cons h, List.filter_cons]
  split <;> simp [*]
section
variable (a0 : ByteArray) (a1 a2 : Int) (l3 : List Int) (bs : List (List (S50)))
theorem isuccs_l1 (hB : BOk bs) (j : Nat) (hj : j < bs.length) (t : List Int) (ht : t.length ≤ 2) (rest : List (List Int)) (done : List (List Int)) (hd : done.length = j) (R : List (List Int)) :
    ∀ m q acc, m = t.length - q → q ≤ t.length → acc.length + m ≤ 2 → Ev (fun k => graph_Succs.l0 k (done ++ ((acc ++ (t.drop q).filter fun t => decide (t < (bs.length : Int))) :: rest)) bs (bs.length : Int) ((j + 1 : Nat) : Int) a0 a1 a2 l3 bs) R →
      Ev (fun k => graph_Succs.l1 k (done ++ (acc :: rest)) (j : Int) bs (bs.length : Int) (j : Int) t (t.length : Int) (q : Int) a0 a1 a2 l3 bs) R
  | 0, q, acc, hm, hq, ha, hR => by
    have e : q = t.length := by omega
    subst e
    rw [List.drop_length, List.filter_nil, List.append_nil] at hR
    refine Ev.succ (Ev.of_eq hR fun k => ?_)
    have hn := hB.n
    rw [graph_Succs.l1, if_neg (by omega), wr1 j (by omega)]
  | m + 1, q, acc, hm, hq, ha, hR => by
    have hlt : q < t.length := by omega
    rw [filter_drop _ t q hlt] at hR
    have hr : rd t (q : Int) = t[q] := rd_nat t q hlt
    have hget : rd_L2 (done ++ (acc :: rest)) (j : Int) = acc := by
      rw [rdL2_nat _ _ (by simp; omega), List.getElem_append_right (by omega)]
      simp [hd]
    by_cases hc : t[q] < (bs.length : Int)
    · rw [if_pos (by simpa using hc), ← List.append_assoc] at hR
      have ih := isuccs_l1 hB j hj t ht rest done hd R m (q + 1) (acc ++ [t[q]]) (by omega) (by omega) (by simp; omega) hR
      refine Ev.succ (Ev.of_eq ih fun k => ?_)
      have hset : (done ++ (acc :: rest)).set j (acc ++ [t[q]]) = done ++ ((acc ++ [t[q]]) :: rest) := by
        rw [List.set_append_right _ _ (by omega)]
        simp [hd]
      rw [graph_Succs.l1, if_pos (by omega), if_pos (by omega), if_pos (by omega), hr, if_pos hc, if_pos (by omega), if_pos (by simp; omega), hget, if_pos (by omega), wr1 q (by omega), Int.toNat_natCast, hset]
    · rw [if_neg (by simpa using hc), List.nil_append] at hR
      have ih := isuccs_l1 hB j hj t ht rest done hd R m (q + 1) acc (by omega) (by omega) (by omega) hR
      refine Ev.succ (Ev.of_eq ih fun k => ?_)
      rw [graph_Succs.l1, if_pos (by omega), if_pos (by omega), if_pos (by omega), hr, if_neg hc, wr1 q (by omega)]
theorem isuccs_l0 (hB : BOk bs) : ∀ m j, m = bs.length - j → j ≤ bs.length → Ev (fun k => graph_Succs.l0 k ((bs.take j).map (erow bs.length) ++ List.replicate (bs.length - j) []) bs (bs.length : Int) (j : Int) a0 a1 a2 l3 bs) (edges bs)
  | 0, j, hm, hj => by
    have e : j = bs.length := by omega
    subst e
    refine Ev.succ (Ev.of_eq (Ev.const _) fun k => ?_)
    rw [graph_Succs.l0, if_neg (by omega)]
    simp [edges]
  | m + 1, j, hm, hj => by
    have hn := hB.n
    have hlt : j < bs.length := by omega
    have hmem : bs[j] ∈ bs := List.getElem_mem hlt
    have ih := isuccs_l0 hB m (j + 1) (by omega) (by omega)
    have hrep : List.replicate (bs.length - j) ([] : List Int) = [] :: List.replicate (bs.length - (j + 1)) [] := by
      rw [show bs.length - j = (bs.length - (j + 1)) + 1 by omega, List.replicate_succ]
    have htk : (bs.take (j + 1)).map (erow bs.length) = (bs.take j).map (erow bs.length) ++ [erow bs.length bs[j]] := by
      rw [List.take_succ_eq_append_getElem hlt, List.map_append]
      rfl
    rw [htk, List.append_assoc, List.singleton_append] at ih
    rw [hrep]
    by_cases h0 : bs[j].length = 0
    · have he : erow bs.length bs[j] = [] := by
        rw [List.length_eq_zero_iff.1 h0]
        rfl
      rw [he] at ih
      refine Ev.succ (Ev.of_eq ih fun k => ?_)
      rw [graph_Succs.l0, if_pos (by omega), if_pos (by omega), if_pos (by omega), rdL4_nat bs j hlt, if_pos (by omega), wr1 j (by omega)]
    · have hbl := hB.b _ hmem
      have hlast : bs[j].length - 1 < bs[j].length := by omega
      have he : erow bs.length bs[j] = (tgt bs[j][bs[j].length - 1]).filter fun t => decide (t < (bs.length : Int)) := by
        unfold erow
        rw [last_eq (by omega)]
      rw [he] at ih
      have h1 := isuccs_l1 a0 a1 a2 l3 bs hB j hlt (tgt bs[j][bs[j].length - 1]) (tgt_len _) (List.replicate (bs.length - (j + 1)) []) ((bs.take j).map (erow bs.length)) (by simp; omega) (edges bs) _ 0 [] rfl (by omega) (by have := tgt_len bs[j][bs[j].length - 1]; simp; omega) ih
      have h2 := itargets_ev (bs[j][bs[j].length - 1]) (hB.a _ hmem _ (List.getElem_mem _))
      refine Ev.succ (Ev.of_eq (Ev.bind (g := fun k t => graph_Succs.l1 k (List.map (erow bs.length) (List.take j bs) ++ [] :: List.replicate (bs.length - (j + 1)) []) (j : Int) bs (bs.length : Int) (j : Int) t (t.length : Int) ((0 : Nat) : Int) a0 a1 a2 l3 bs) h2 h1) fun k => ?_)
      rw [graph_Succs.l0, if_pos (by omega), if_pos (by omega), if_pos (by omega), rdL4_nat bs j hlt, if_neg (by omega), wrm1 _ (by omega) (by omega), if_pos (by omega), if_pos (by omega), rdT_nat _ _ hlast]
      rfl
theorem isuccs_ev (hB : BOk bs) : Ev (fun k => graph_Succs.f k a0 a1 a2 l3 bs) (edges bs) := by
  have hn := hB.n
  have h := isuccs_l0 a0 a1 a2 l3 bs hB _ 0 rfl (by omega)
  refine Ev.of_eq h fun k => ?_
  rw [graph_Succs.f, if_pos (by omega), if_pos (by omega)]
  rfl
theorem rsuccs_l1 (hB : BOk bs) (j : Nat) (hj : j < bs.length) (t : List Int) (ht : t.length ≤ 2) (done : List (List Int)) (hd : done.length = j) (R : List (List Int)) :
    ∀ m q acc, m = t.length - q → q ≤ t.length → acc.length + m ≤ 2 → Ev (fun k => balustraderef17_Succs.l0 k (done ++ [acc ++ (t.drop q).filter fun t => decide (t < (bs.length : Int))]) ((j + 1 : Nat) : Int) a0 a1 a2 l3 bs) R →
      Ev (fun k => balustraderef17_Succs.l1 k done (j : Int) acc t (q : Int) a0 a1 a2 l3 bs) R
  | 0, q, acc, hm, hq, ha, hR => by
    have e : q = t.length := by omega
    subst e
    rw [List.drop_length, List.filter_nil, List.append_nil] at hR
    refine Ev.succ (Ev.of_eq hR fun k => ?_)
    have hn := hB.n
    rw [balustraderef17_Succs.l1, if_neg (by omega), if_pos (by omega), wr1 j (by omega)]
  | m + 1, q, acc, hm, hq, ha, hR => by
    have hlt : q < t.length := by omega
    rw [filter_drop _ t q hlt] at hR
    have hr : rd t (q : Int) = t[q] := rd_nat t q hlt
    by_cases hc : t[q] < (bs.length : Int)
    · rw [if_pos (by simpa using hc), ← List.append_assoc] at hR
      have ih := rsuccs_l1 hB j hj t ht done hd R m (q + 1) (acc ++ [t[q]]) (by omega) (by omega) (by simp; omega) hR
      refine Ev.succ (Ev.of_eq ih fun k => ?_)
      rw [balustraderef17_Succs.l1, if_pos (by omega), if_pos (by omega), hr, if_pos hc, if_pos (by omega), wr1 q (by omega)]
    · rw [if_neg (by simpa using hc), List.nil_append] at hR
      have ih := rsuccs_l1 hB j hj t ht done hd R m (q + 1) acc (by omega) (by omega) (by omega) hR
      refine Ev.succ (Ev.of_eq ih fun k => ?_)
      rw [balustraderef17_Succs.l1, if_pos (by omega), if_pos (by omega), hr, if_neg hc, wr1 q (by omega)]
theorem rsuccs_l0 (hB : BOk bs) : ∀ m j, m = bs.length - j → j ≤ bs.length → Ev (fun k => balustraderef17_Succs.l0 k ((bs.take j).map (erow bs.length)) (j : Int) a0 a1 a2 l3 bs) (edges bs)
  | 0, j, hm, hj => by
    have e : j = bs.length := by omega
    subst e
    refine Ev.succ (Ev.of_eq (Ev.const _) fun k => ?_)
    rw [balustraderef17_Succs.l0, if_neg (by omega)]
    simp [edges]
  | m + 1, j, hm, hj => by
    have hn := hB.n
    have hlt : j < bs.length := by omega
    have hmem : bs[j] ∈ bs := List.getElem_mem hlt
    have ih := rsuccs_l0 hB m (j + 1) (by omega) (by omega)
    have htk : (bs.take (j + 1)).map (erow bs.length) = (bs.take j).map (erow bs.length) ++ [erow bs.length bs[j]] := by
      rw [List.take_succ_eq_append_getElem hlt, List.map_append]
      rfl
    rw [htk] at ih
    have hdl : ((bs.take j).map (erow bs.length)).length = j := by simp; omega
    by_cases h0 : bs[j].length = 0
    · have he : erow bs.length bs[j] = [] := by
        rw [List.length_eq_zero_iff.1 h0]
        rfl
      rw [he] at ih
      refine Ev.succ (Ev.of_eq ih fun k => ?_)
      rw [balustraderef17_Succs.l0, if_pos (by omega), if_pos (by omega), Option.bind_some, rdL4_nat bs j hlt, if_neg (by omega), if_pos (by omega), wr1 j (by omega)]
    · have hbl := hB.b _ hmem
      have hlast : bs[j].length - 1 < bs[j].length := by omega
      have he : erow bs.length bs[j] = (tgt bs[j][bs[j].length - 1]).filter fun t => decide (t < (bs.length : Int)) := by
        unfold erow
        rw [last_eq (by omega)]
      rw [he] at ih
      have h1 := rsuccs_l1 a0 a1 a2 l3 bs hB j hlt (tgt bs[j][bs[j].length - 1]) (tgt_len _) ((bs.take j).map (erow bs.length)) hdl (edges bs) _ 0 [] rfl (by omega) (by have := tgt_len bs[j][bs[j].length - 1]; simp; omega) ih
      have h2 := rtargets_ev (bs[j][bs[j].length - 1])
      refine Ev.succ (Ev.of_eq (Ev.bind (g := fun k t => balustraderef17_Succs.l1 k (List.map (erow bs.length) (List.take j bs)) (j : Int) [] t ((0 : Nat) : Int) a0 a1 a2 l3 bs) h2 h1) fun k => ?_)
      rw [balustraderef17_Succs.l0, if_pos (by omega), if_pos (by omega), Option.bind_some, rdL4_nat bs j hlt, if_pos (by omega), wrm1 _ (by omega) (by omega), if_pos (by omega), if_pos (by omega), rdT_nat _ _ hlast]
      rfl
theorem rsuccs_ev (hB : BOk bs) : Ev (fun k => balustraderef17_Succs.f k a0 a1 a2 l3 bs) (edges bs) := by
  have h := rsuccs_l0 a0 a1 a2 l3 bs hB _ 0 rfl (by omega)
  exact Ev.of_eq h fun k => rfl
end
end Go.Proofs.Ytjibojmbhbaneaa.PRm
