/- rim.Rims: blocks' rims. -/
import Derived.Test.YtjibojmbhbaneaaPRmx5
import Derived.Test.YtjibojmbhbaneaaXTree
namespace Go.Proofs.Ytjibojmbhbaneaa.PRm
open Go.RowKit Go.Proofs.YtjibojmbhbaneaaW.PrintWords Go.Proofs.YtjibojmbhbaneaaW.PrintLast Go.Proofs.YtjibojmbhbaneaaW.PrintMore Go.Proofs.Ytjibojmbhbaneaa.X
set_option linter.unusedVariables false
/-- From one block up the tree, as long as the block isn't k's own next one. -/
def rims.up (c : Nat) (tree : List Int) (k : Int) : Nat → Int → List (List Int) → Option (List (List Int))
  | 0, _, _ => none
  | n + 1, a, out =>
    if a < 0 then some out
    else if k < (tree.length : Int) ∧ 0 ≤ k then
      if a = rd tree k then some out
      else if a < (out.length : Int) ∧ a < (tree.length : Int) then
        (slices_Contains_int_int.f c (out.getD a.toNat []) k).bind fun has =>
          if has = true then rims.up c tree k n (rd tree a) out
          else if (out.getD a.toNat []).length < 17592186044415 then rims.up c tree k n (rd tree a) (out.set a.toNat (out.getD a.toNat [] ++ [k])) else none
      else none
    else none
def rims.row (c : Nat) (tree : List Int) (reach : List Bool) (k : Int) : List Int → List (List Int) → Option (List (List Int))
  | [], out => some out
  | p :: l, out =>
    if 0 ≤ p ∧ p < (reach.length : Int) then
      if rdOf false reach p = true then (rims.up c tree k c p out).bind fun out => rims.row c tree reach k l out
      else rims.row c tree reach k l out
    else none
def rims.all (c : Nat) (tree : List Int) (preds : List (List Int)) (reach : List Bool) : List Bool → Int → List (List Int) → Option (List (List Int))
  | [], _, out => some out
  | is :: l, k, out =>
    if is = true then
      if k < (preds.length : Int) then (rims.row c tree reach k (preds.getD k.toNat []) out).bind fun out => rims.all c tree preds reach l (k + 1) out
      else none
    else rims.all c tree preds reach l (k + 1) out
def rim_Rims.f (k : Nat) (a0_0 : ByteArray) (a0_1 : Int) (a0_2 : Int) (l0_3 : List Int) (l0_4 : List (List (S50))) : Option (List (List Int)) :=
  (dom_Tree.f k a0_0 a0_1 a0_2 l0_3 l0_4).bind fun tree => (graph_Preds.f k a0_0 a0_1 a0_2 l0_3 l0_4).bind fun preds => (graph_Reach.f k a0_0 a0_1 a0_2 l0_3 l0_4).bind fun reach =>
    if l0_4.length ≤ 11728124029610 then rims.all k tree preds reach reach 0 (List.replicate l0_4.length []) else none
theorem rims.up_mono (c : Nat) (tree : List Int) (k : Int) : ∀ n a out, LeO (rims.up c tree k n a out) (rims.up (c + 1) tree k (n + 1) a out)
  | 0, _, _ => LeO.none _
  | n + 1, a, out => by
    rw [rims.up, rims.up]
    exact LeO.ite (LeO.refl _) (LeO.ite (LeO.ite (LeO.refl _) (LeO.ite (LeO.bind (slices_Contains_int_int.mono _ _ _) (fun _ => LeO.ite (rims.up_mono c tree k n _ _) (LeO.ite (rims.up_mono c tree k n _ _) (LeO.none _)))) (LeO.none _))) (LeO.none _))
theorem rims.row_mono (c : Nat) (tree : List Int) (reach : List Bool) (k : Int) : ∀ l out, LeO (rims.row c tree reach k l out) (rims.row (c + 1) tree reach k l out)
  | [], _ => LeO.refl _
  | p :: l, out => by
    rw [rims.row, rims.row]
    exact LeO.ite (LeO.ite (LeO.bind (rims.up_mono _ _ _ _ _ _) (fun _ => rims.row_mono c tree reach k l _)) (rims.row_mono c tree reach k l _)) (LeO.none _)
theorem rims.all_mono (c : Nat) (tree : List Int) (preds : List (List Int)) (reach : List Bool) : ∀ l k out, LeO (rims.all c tree preds reach l k out) (rims.all (c + 1) tree preds reach l k out)
  | [], _, _ => LeO.refl _
  | is :: l, k, out => by
    rw [rims.all, rims.all]
    exact LeO.ite (LeO.ite (LeO.bind (rims.row_mono _ _ _ _ _ _) (fun _ => rims.all_mono c tree preds reach l _ _)) (LeO.none _)) (rims.all_mono c tree preds reach l _ _)
theorem rim_Rims.mono : ∀ a0 a1 a2 a3 a4 k, LeO (rim_Rims.f k a0 a1 a2 a3 a4) (rim_Rims.f (k + 1) a0 a1 a2 a3 a4) := by
  intro a0 a1 a2 a3 a4 k
  exact LeO.bind (dom_Tree.mono _ _ _ _ _ _) (fun _ => LeO.bind (graph_Preds.mono _ _ _ _ _ _) (fun _ => LeO.bind (graph_Reach.mono _ _ _ _ _ _) (fun _ => LeO.ite (rims.all_mono _ _ _ _ _ _ _) (LeO.none _))))
theorem rims.I_below {w W2 W3 W W1 : World} {g cap n : Nat} {out : List (List Int)} (h : preds.I w W2 W3 g cap n out W) (hb : Below W.heap.size W W1) (hz : W2.heap.size ≤ W3.heap.size) : preds.I w W2 W3 g cap n out W1 := by
  obtain ⟨h1, h2, h3, h4⟩ := h
  exact ⟨Kd.S_below h1 hb, fun q h5 h6 => (hb.block q (by omega)).trans (h2 q h5 h6), h3.trans (hb.mono h3.size), Nat.le_trans h4 hb.size⟩
set_option maxHeartbeats 8000000 in
set_option maxRecDepth 100000 in
theorem rim_Rims.calls (k : Nat) (a0_0 : ByteArray) (a0_1 : Int) (a0_2 : Int) (A0_3 : Option Addr) (c0_3 : Nat) (l0_3 : List Int) (A0_4 : Option Addr) (c0_4 : Nat) (l0_4 : List (List (S50))) (r : List (List Int)) (w : World) (hr0_3 : Kd.C (Kd.int .i64) w A0_3 l0_3.length l0_3) (hc0_3 : l0_3.length ≤ c0_3) (hr0_4 : Kd.C (Kd.slice 50 k50) w A0_4 l0_4.length l0_4) (hc0_4 : l0_4.length ≤ c0_4) (h : rim_Rims.f k a0_0 a0_1 a0_2 l0_3 l0_4 = some r) :
    Calls Try.prog 14 #[.agg #[.string a0_0, .int .i64 a0_1, .int .i64 a0_2, .slice A0_3 l0_3.length c0_3, .slice A0_4 l0_4.length c0_4]] w fun e w' => ∃ v0_ : Value, e = .returned (v0_) ∧ Kd.S (Kd.slice 3 (Kd.int .i64)) 23 w' w.heap.size (fun _ => True) v0_ r ∧ Below w.heap.size w w' := by
  have HR3 := Aside0.mk hr0_3
  have HC3 := Aside0.mk hc0_3
  have HR4 := Aside0.mk hr0_4
  have HC4 := Aside0.mk hc0_4
  obtain ⟨tree, h1, h2⟩ := Option.bind_eq_some_iff.1 h
  obtain ⟨prs, h3, h4⟩ := Option.bind_eq_some_iff.1 h2
  obtain ⟨reach, h5, h6⟩ := Option.bind_eq_some_iff.1 h4
  by_cases hl : l0_4.length ≤ 11728124029610
  case neg => rw [if_neg hl] at h6; exact absurd h6 (by simp)
  rw [if_pos hl] at h6
  have H1 := Aside0.mk h1
  have H3 := Aside0.mk h3
  have H5 := Aside0.mk h5
  have H6 := Aside0.mk h6
  clear hr0_3 hc0_3 hr0_4 hc0_4 h h1 h2 h3 h4 h5 h6
  have p0 : (0 : Int) ≤ (l0_4.length : Int) := by omega
  have hu30 := Try.underlying30
  go_enter Try.func14, Try.ntmps14
  go_wp2_with (first
    | ((with_reducible refine gate_dst (N := 1) rfl ?_); refine box_event ?hg (N := 1) ?hd (cs := #[.string a0_0, .int .i64 a0_1, .int .i64 a0_2, .slice A0_3 l0_3.length c0_3, .slice A0_4 l0_4.length c0_4]) (t := 30) ?hr ?_; (case hd => rfl); (case hg => rfl); (case hr => first | (go_simp; done) | (go_simp; rfl)); intro g0 hg0 W1 hb1 hB1
       have e0 : W1.cell? ⟨g0, 0, none⟩ = some (.string a0_0) := (blk_cell hb1 0).trans rfl
       have e1 : W1.cell? ⟨g0, 1, none⟩ = some (.int .i64 a0_1) := (blk_cell hb1 1).trans rfl
       have e2 : W1.cell? ⟨g0, 2, none⟩ = some (.int .i64 a0_2) := (blk_cell hb1 2).trans rfl
       have e3 : W1.cell? ⟨g0, 3, none⟩ = some (.slice A0_3 l0_3.length c0_3) := (blk_cell hb1 3).trans rfl
       have e4 : W1.cell? ⟨g0, 4, none⟩ = some (.slice A0_4 l0_4.length c0_4) := (blk_cell hb1 4).trans rfl
       have HB1 := Aside0.mk hB1; have Hb1 := Aside0.mk hb1; clear hg0 hb1 hB1))
  go_region_held3 (fun w' => w'.cell? ⟨g0, 0, none⟩ = some (.string a0_0) ∧ w'.cell? ⟨g0, 1, none⟩ = some (.int .i64 a0_1) ∧ w'.cell? ⟨g0, 2, none⟩ = some (.int .i64 a0_2) ∧ w'.cell? ⟨g0, 3, none⟩ = some (.slice A0_3 l0_3.length c0_3) ∧ w'.cell? ⟨g0, 4, none⟩ = some (.slice A0_4 l0_4.length c0_4)) (first | exact HK4.out | exact HK3.out | exact HK2.out | go_keep)
    (first
    | (go_at_call 34; refine (dom_Tree.calls k a0_0 a0_1 a0_2 _ _ l0_3 _ _ l0_4 tree _ (Kd.C_below HR3.out HB1.out.drew) HC3.out (Kd.C_below HR4.out HB1.out.drew) HC4.out H1.out).mono ?_; rintro e W2 ⟨v0, rfl, hR2, hB2⟩; obtain ⟨A2, c2, rfl, hlc2, hF2⟩ := Kd.freeze hR2; have HLc := Aside0.mk hlc2; clear hlc2
       have hb2 := blk_of_below (hB2.mono (B' := W1.heap.size) (Nat.le_refl _)) (blk_lt Hb1.out) (w := W1.drew) Hb1.out
       have HK2 := Aside0.mk (show W2.cell? ⟨g0, 0, none⟩ = some (.string a0_0) ∧ W2.cell? ⟨g0, 1, none⟩ = some (.int .i64 a0_1) ∧ W2.cell? ⟨g0, 2, none⟩ = some (.int .i64 a0_2) ∧ W2.cell? ⟨g0, 3, none⟩ = some (.slice A0_3 l0_3.length c0_3) ∧ W2.cell? ⟨g0, 4, none⟩ = some (.slice A0_4 l0_4.length c0_4) from ⟨(blk_cell hb2 0).trans rfl, (blk_cell hb2 1).trans rfl, (blk_cell hb2 2).trans rfl, (blk_cell hb2 3).trans rfl, (blk_cell hb2 4).trans rfl⟩)
       have HF2 := Aside0.mk hF2; have HB2 := Aside0.mk hB2; have Hb2 := Aside0.mk hb2; clear hF2 hB2 hR2 hb2)
    | (go_at_call 35; refine (graph_Preds.calls k a0_0 a0_1 a0_2 _ _ l0_3 _ _ l0_4 prs _ (Kd.C_below HR3.out (HB1.out.drew.trans (HB2.out.mono HB1.out.size))) HC3.out (Kd.C_below HR4.out (HB1.out.drew.trans (HB2.out.mono HB1.out.size))) HC4.out H3.out).mono ?_; rintro e W3 ⟨v0, rfl, hS3, hB3⟩; obtain ⟨A3, c3, hd3, rfl, _, hF3⟩ := Rows2.freeze (Kd.S_R hS3)
       have hb3 := blk_of_below hB3 (blk_lt Hb2.out) Hb2.out
       have HK3 := Aside0.mk (show W3.cell? ⟨g0, 0, none⟩ = some (.string a0_0) ∧ W3.cell? ⟨g0, 1, none⟩ = some (.int .i64 a0_1) ∧ W3.cell? ⟨g0, 2, none⟩ = some (.int .i64 a0_2) ∧ W3.cell? ⟨g0, 3, none⟩ = some (.slice A0_3 l0_3.length c0_3) ∧ W3.cell? ⟨g0, 4, none⟩ = some (.slice A0_4 l0_4.length c0_4) from ⟨(blk_cell hb3 0).trans rfl, (blk_cell hb3 1).trans rfl, (blk_cell hb3 2).trans rfl, (blk_cell hb3 3).trans rfl, (blk_cell hb3 4).trans rfl⟩)
       have HF3 := Aside0.mk hF3; have HB3 := Aside0.mk hB3; have Hb3 := Aside0.mk hb3; have HLp := Aside0.mk (Kd.S_reads' hS3).2.2.2.1; have HBW := Aside0.mk (HB1.out.drew.trans ((HB2.out.mono (B' := w.heap.size) HB1.out.size).trans (hB3.mono (B' := w.heap.size) (Nat.le_trans HB1.out.size HB2.out.size)) : Below w.heap.size W1.drew W3)); clear hF3 hB3 hS3 hb3)
    | (go_at_call 36; refine (graph_Reach.calls k a0_0 a0_1 a0_2 _ _ l0_3 _ _ l0_4 reach _ (Kd.C_below HR3.out HBW.out) HC3.out (Kd.C_below HR4.out HBW.out) HC4.out H5.out).mono ?_; rintro e W4 ⟨v0, rfl, hR4', hB4⟩; obtain ⟨A4, c4, rfl, hlc4, hF4⟩ := Kd.freeze hR4'
       have hb4 := blk_of_below hB4 (blk_lt Hb3.out) Hb3.out
       have HK4 := Aside0.mk (show W4.cell? ⟨g0, 0, none⟩ = some (.string a0_0) ∧ W4.cell? ⟨g0, 1, none⟩ = some (.int .i64 a0_1) ∧ W4.cell? ⟨g0, 2, none⟩ = some (.int .i64 a0_2) ∧ W4.cell? ⟨g0, 3, none⟩ = some (.slice A0_3 l0_3.length c0_3) ∧ W4.cell? ⟨g0, 4, none⟩ = some (.slice A0_4 l0_4.length c0_4) from ⟨(blk_cell hb4 0).trans rfl, (blk_cell hb4 1).trans rfl, (blk_cell hb4 2).trans rfl, (blk_cell hb4 3).trans rfl, (blk_cell hb4 4).trans rfl⟩)
       have HF4 := Aside0.mk hF4; have HB4 := Aside0.mk hB4; have Hb4 := Aside0.mk hb4; clear hF4 hB4 hR4' hb4 hlc4))
  have HT := Aside0.mk (show ∀ W : World, (∀ q, W1.heap.size ≤ q → q < W4.heap.size → W.heap[q]? = W4.heap[q]?) → (Kd.int .i64).C W A2 tree.length tree from fun W hW => HF2.out W (fun q h1 h2 => by
    have h3 := HB3.out.size
    have h4 := HB4.out.size
    rw [hW q h1 (by omega), HB4.out.block q (by omega), HB3.out.block q h2]))
  have HP := Aside0.mk (show ∀ W : World, (∀ q, W1.heap.size ≤ q → q < W4.heap.size → W.heap[q]? = W4.heap[q]?) → Rows2 .i64 W A3 hd3 prs from fun W hW => HF3.out W (fun q h1 h2 => by
    have h3 := HB2.out.size
    have h4 := HB4.out.size
    have h5 : W1.drew.heap.size = W1.heap.size := rfl
    rw [hW q (by omega) (by omega), HB4.out.block q h2]))
  have HRe := Aside0.mk (show ∀ W : World, (∀ q, W1.heap.size ≤ q → q < W4.heap.size → W.heap[q]? = W4.heap[q]?) → Kd.bool.C W A4 reach.length reach from fun W hW => HF4.out W (fun q h1 h2 => by
    have h3 := HB2.out.size
    have h4 := HB3.out.size
    have h5 : W1.drew.heap.size = W1.heap.size := rfl
    exact hW q (by omega) h2))
  have HBV := Aside0.mk (HBW.out.trans (HB4.out.mono (B' := w.heap.size) (Below.size HBW.out)))
  have hb4 := Hb4.out
  have f4 : W4.cell? ⟨g0, 4, none⟩ = some (.slice A0_4 l0_4.length c0_4) := (blk_cell hb4 4).trans rfl
  have p8 := (HRe.out W4 (fun _ _ _ => rfl)).2.1
  have HLp := Aside0.mk (show prs.length ≤ 9223372036854775807 from HLp.out)
  have HZ1 := Aside0.mk (show W1.heap.size ≤ W4.heap.size from by
    have h3 := HB2.out.size; have h4 := HB3.out.size; have h5 := HB4.out.size; have h6 : W1.drew.heap.size = W1.heap.size := rfl; omega)
  clear HF2 HF3 HF4 HBW Hb2 Hb3 Hb4 HK2 HK3 HK4 e0 e1 e2 e3 e4 hb4 HB1 Hb1 HB2 HB3 HB4 H1 H3 H5
  go_wp2_with (first
    | ((with_reducible refine gate_dst (N := 21) rfl ?_); refine Kd.S_make (Kd.slice 3 (Kd.int .i64)) (w0 := w) w.heap.size 23 rfl (N := 21) rfl 22 _ _ rfl (l0_4.length : Int) rfl rfl Try.underlying22 (.slice none 0 0) 24 info23 rfl (by decide) (by omega) [] (ok := fun q => q < W1.heap.size ∨ W4.heap.size ≤ q) (okp := fun _ => False) ⟨_, rfl, Kd.R_nil _ _ _ _ _⟩ (fun _ hk => hk.elim) (.inr (Nat.le_refl _)) (by omega) (by omega) HBV.out HBV.out.size ?_; intro v1 W5 hS5 hB5 hg5 hown5
       obtain ⟨g2, c2, hv, hl2, hg2'⟩ := R_form' (Kd.S_R hS5) hown5; rw [List.length_replicate, Int.toNat_natCast] at hv; subst hv; rw [Int.toNat_natCast] at hS5
       have HI := Aside0.mk (show preds.I w W1 W4 g2 c2 l0_4.length (List.replicate l0_4.length []) W5 from ⟨hS5, fun q _ h2 => hg5.block q h2 (by simp), hB5, hg5.size⟩)
       have HL2 := Aside0.mk hg2'; have HY2 := Aside0.mk (Nat.le_trans HBV.out.size hg2'); clear hS5 hB5 hg5 hown5 hl2 hg2'))
  go_loopw [24] (fun i wr => ∃ (j : Nat) (out : List (List Int)), i = .int .i64 j ∧ Aside0 (j ≤ reach.length) ∧ Aside0 (rims.all k tree prs reach (reach.drop j) j out = some r) ∧ Aside0 (preds.I w W1 W4 g2 c2 l0_4.length out wr)) (fun i _ => reach.length - (intOf i).toNat)
  case atStart => exact ⟨0, _, rfl, ⟨Nat.zero_le _⟩, H6, HI⟩
  case round =>
    obtain ⟨j, out, rfl, ⟨hj⟩, Hf, HI⟩ := hrel
    clear f4 H6
    by_cases hlt : j < reach.length
    · have hf1 := Hf.out
      rw [List.drop_eq_getElem_cons hlt, rims.all] at hf1
      have p0j : (0 : Int) ≤ (j : Int) := by omega
      obtain ⟨ad, hAd, hx⟩ := Kd.at_bool (HRe.out wr HI.out.2.1) (j : Int) (by omega) (by omega)
      rw [show rdOf false reach (j : Int) = reach[j] from by simp [rdOf, List.getD, hlt], Int.toNat_natCast] at hx
      subst hAd
      cases hrj : reach[j] with
      | false =>
        rw [hrj] at hf1 hx
        rw [if_neg (by simp)] at hf1
        have HR1 := Aside0.mk hf1
        clear hf1 hrj Hf
        go_wp2
        go_roundw
        case rel => exact ⟨j + 1, _, by go_num, ⟨by omega⟩, HR1, HI⟩
        case measure => simp [intOf]; omega
      | true =>
        rw [hrj] at hf1 hx
        rw [if_pos rfl] at hf1
        by_cases hc : (j : Int) < (prs.length : Int)
        case neg => rw [if_neg hc] at hf1; exact absurd hf1 (by simp)
        rw [if_pos hc, Int.toNat_natCast] at hf1
        obtain ⟨outF, hrow, hrest⟩ := Option.bind_eq_some_iff.1 hf1
        have HR1 := Aside0.mk hrest
        obtain ⟨l, hl⟩ : ∃ l, l = prs.getD j [] := ⟨_, rfl⟩
        rw [← hl] at hrow
        obtain ⟨B0, b0, hB⟩ : ∃ A0 c0, hd3 j = (A0, c0) := ⟨_, _, rfl⟩
        obtain ⟨ad3, hA3, hy, _, _⟩ := HP.out wr HI.out.2.1 j (by omega)
        have HC := Aside0.mk (show ∀ W : World, (∀ g, W1.heap.size ≤ g → g < W4.heap.size → W.heap[g]? = W4.heap[g]?) → (Kd.int .i64).C W B0 l.length l from fun W hW => by
          obtain ⟨_, _, _, _, q⟩ := HP.out W hW j (by omega)
          rw [hB, ← hl] at q
          exact q)
        rw [hB, ← hl] at hy
        subst hA3
        have Hrow := Aside0.mk hrow
        have p7 : l.length ≤ 9223372036854775807 := (HC.out wr HI.out.2.1).2.1
        have q1 := eq_true hc
        clear hf1 hrj hrow hrest hl hB Hf hc
        obtain ⟨wo, rfl⟩ : ∃ wo : World, wo = wr := ⟨_, rfl⟩
        go_wp2
        go_loopw [36] (fun i wi => ∃ (q : Nat) (out1 : List (List Int)), i = .int .i64 q ∧ Aside0 (q ≤ l.length) ∧ Aside0 (rims.row k tree reach j (l.drop q) out1 = some outF) ∧ Aside0 (preds.I w W1 W4 g2 c2 l0_4.length out1 wi)) (fun i _ => l.length - (intOf i).toNat)
        case atStart => exact ⟨0, out, rfl, ⟨Nat.zero_le _⟩, Hrow, HI⟩
        case round =>
          obtain ⟨q, out1, rfl, ⟨hq⟩, Hf2, HI2⟩ := hrel
          clear hx hy HI Hrow
          by_cases hlt2 : q < l.length
          · have hf1 := Hf2.out
            rw [List.drop_eq_getElem_cons hlt2, rims.row] at hf1
            obtain ⟨p, hp⟩ : ∃ p, p = l[q] := ⟨_, rfl⟩
            rw [← hp] at hf1
            by_cases hc : 0 ≤ p ∧ p < (reach.length : Int)
            case neg => rw [if_neg hc] at hf1; exact absurd hf1 (by simp)
            rw [if_pos hc] at hf1
            obtain ⟨u0, u1⟩ := hc
            obtain ⟨ad0, hA0, hx0⟩ := Kd.at_int (HC.out wr HI2.out.2.1) (q : Int) (by omega) (by omega)
            rw [show rd l (q : Int) = p from by rw [hp]; simp [rd, List.getD, hlt2], Int.toNat_natCast] at hx0
            subst hA0
            have p0q : (0 : Int) ≤ (q : Int) := by omega
            have v0 := eq_true u0
            have v1 := eq_true u1
            obtain ⟨adr, hAr, hr1⟩ := Kd.at_bool (HRe.out wr HI2.out.2.1) p u0 u1
            have Hadr := Aside0.mk hAr
            cases hrp : rdOf false reach p with
            | false =>
              rw [if_neg (by simp [hrp])] at hf1
              rw [hrp] at hr1
              injection hAr with hAr
              subst hAr
              have HR2 := Aside0.mk hf1
              clear hf1 hrp hp Hf2
              obtain ⟨wo2, rfl⟩ : ∃ wo2 : World, wo2 = wr := ⟨_, rfl⟩
              go_wp2
              go_loopg [11] k (fun kq v11 w' => v11 = .int .i64 p ∧ w' = wo2)
              case atStart => exact ⟨rfl, rfl⟩
              case round =>
                obtain ⟨rfl, rfl⟩ := hrel
                go_wp2
                go_roundw
                case rel => exact ⟨q + 1, _, by go_num, ⟨by omega⟩, HR2, HI2⟩
                case measure => simp [intOf]; omega
            | true =>
              rw [if_pos hrp] at hf1
              rw [hrp] at hr1
              injection hAr with hAr
              subst hAr
              obtain ⟨outG, hup, hrest2⟩ := Option.bind_eq_some_iff.1 hf1
              have Hup := Aside0.mk hup
              have HR2 := Aside0.mk hrest2
              have Hrp := Aside0.mk hrp
              clear hf1 hrp hp Hf2 hup hrest2
              obtain ⟨wo2, rfl⟩ : ∃ wo2 : World, wo2 = wr := ⟨_, rfl⟩
              go_wp2
              go_loopg [11] k (fun kq v11 w' => ∃ (a : Int) (out2 : List (List Int)), v11 = .int .i64 a ∧ Aside0 (rims.up k tree j kq a out2 = some outG) ∧ Aside0 (kq ≤ k) ∧ Aside0 (preds.I w W1 W4 g2 c2 l0_4.length out2 w'))
              case atStart => exact ⟨p, out1, rfl, Hup, ⟨Nat.le_refl _⟩, HI2⟩
              case round =>
                obtain ⟨a, out2, rfl, HA, HK1, HI3⟩ := hrel
                obtain ⟨adr, hAr, hr1⟩ := Kd.at_bool (HRe.out wr HI3.out.2.1) p u0 u1
                injection hAr with hAr
                subst hAr
                rw [Hrp.out] at hr1
                clear Hup
                cases gk with
                | zero => exact absurd HA.out (by simp [rims.up])
                | succ k1 =>
                  have hf1 := HA.out
                  rw [rims.up] at hf1
                  clear HA
                  by_cases w1 : a < 0
                  · rw [if_pos w1] at hf1
                    obtain rfl := Option.some.inj hf1
                    have w1b : decide (a ≥ 0) = false := decide_eq_false (by omega)
                    clear hf1
                    go_wp2
                    go_roundw
                    case rel => exact ⟨q + 1, _, by go_num, ⟨by omega⟩, HR2, HI3⟩
                    case measure => simp [intOf]; omega
                  · rw [if_neg w1] at hf1
                    have a0 : 0 ≤ a := by omega
                    have w1b : decide (a ≥ 0) = true := decide_eq_true (by omega)
                    by_cases c1 : (j : Int) < (tree.length : Int) ∧ 0 ≤ (j : Int)
                    case neg => rw [if_neg c1] at hf1; exact absurd hf1 (by simp)
                    rw [if_pos c1] at hf1
                    obtain ⟨adt, hAt, ht1⟩ := Kd.at_int (HT.out wr HI3.out.2.1) (j : Int) (by omega) (by omega)
                    have HT1 := Aside0.mk hAt
                    subst hAt
                    rw [Int.toNat_natCast] at ht1
                    have q5 := eq_true c1.1
                    by_cases w2 : a = rd tree j
                    · rw [if_pos w2] at hf1
                      obtain rfl := Option.some.inj hf1
                      clear hf1
                      have w2b : (a == rd tree j) = true := by simp [w2]
                      go_wp2
                      go_roundw
                      case rel => exact ⟨q + 1, _, by go_num, ⟨by omega⟩, HR2, HI3⟩
                      case measure => simp [intOf]; omega
                    · rw [if_neg w2] at hf1
                      have w2b : (a == rd tree j) = false := by simp [w2]
                      by_cases c3 : a < (out2.length : Int) ∧ a < (tree.length : Int)
                      case neg => rw [if_neg c3] at hf1; exact absurd hf1 (by simp)
                      rw [if_pos c3] at hf1
                      obtain ⟨has, hcon, hf2⟩ := Option.bind_eq_some_iff.1 hf1
                      have hn : l0_4.length = out2.length := (Kd.S_reads' HI3.out.1).1
                      have t3 : a < (l0_4.length : Int) := by rw [hn]; exact c3.1
                      obtain ⟨B0, b0, oki, hy0, hy1, hoki, hR, _⟩ := rows_app HI3.out.1 a a0 t3
                      obtain ⟨_, hlc, hRC⟩ := Kd.R_reads' hR
                      have HRC := Aside0.mk hRC
                      have HLC := Aside0.mk hlc
                      have Hcon := Aside0.mk hcon
                      have q6 := eq_true a0
                      have q7 := eq_true t3
                      have q8 := eq_true c3.2
                      have Ha8 := Aside0.mk c3.2
                      obtain ⟨row, hrow⟩ : ∃ row, row = out2.getD a.toNat [] := ⟨_, rfl⟩
                      rw [← hrow] at hf2 hy0 HRC HLC Hcon
                      clear hf1 hcon hoki hR hRC hlc c3 hy1 hn
                      cases has with
                      | true =>
                        rw [if_pos rfl] at hf2
                        have Hup2 := Aside0.mk hf2
                        clear hf2 hrow
                        go_wp2_with (first
                          | (go_at_call 37; refine (slices_Contains_int_int.calls k B0 b0 row j true _ HRC.out HLC.out Hcon.out).mono ?_; rintro e W8 ⟨rfl, hdr⟩
                             have hI8 := rims.I_below HI3.out hdr.below HZ1.out
                             obtain ⟨adt2, hAt2, ht2⟩ := Kd.at_int (HT.out W8 hI8.2.1) a a0 Ha8.out
                             injection hAt2 with hAt2; subst hAt2
                             have HI8 := Aside0.mk hI8; clear hdr hI8))
                        go_roundg k1
                        case measure => have := HK1.out; omega
                        case rel => exact ⟨_, _, rfl, Hup2, ⟨by have := HK1.out; omega⟩, HI8⟩
                      | false =>
                        rw [if_neg (by simp)] at hf2
                        by_cases c4 : row.length < 17592186044415
                        case neg => rw [if_neg c4] at hf2; exact absurd hf2 (by simp)
                        rw [if_pos c4] at hf2
                        have Hup2 := Aside0.mk hf2
                        have Hlen := Aside0.mk c4
                        have Hrw := Aside0.mk hrow
                        clear hf2 c4 hrow
                        go_wp2_with (first
                          | (go_at_call 37; refine (slices_Contains_int_int.calls k B0 b0 row j false _ HRC.out HLC.out Hcon.out).mono ?_; rintro e W8 ⟨rfl, hdr⟩
                             have hI8 := rims.I_below HI3.out hdr.below HZ1.out
                             obtain ⟨B1, b1, oki1, hz0, hz1, hoki1, hR1, hnext1⟩ := rows_app hI8.1 a a0 t3
                             rw [← Hrw.out] at hz0
                             have HRr := Aside0.mk hR1
                             have HOwn := Aside0.mk (show ∀ z, (Value.slice B1 (out2.getD a.toNat []).length b1).ownBlock = some z → w.heap.size ≤ z ∧ (z < W1.heap.size ∨ W4.heap.size ≤ z) from fun z hz => by
                               have h7 := (Kd.R_bound hR1).1 z hz
                               refine ⟨h7.2.1, ?_⟩
                               rcases h7.1 with h8 | h8
                               · exact (hoki1 z h8).1
                               · exact h8.1)
                             have HNx := Aside0.mk hnext1
                             have HI8 := Aside0.mk hI8; clear hdr hI8 hy0 hoki1 hR1 hnext1)
                          | ((with_reducible refine gate_builtin (b := .append) (xs := #[.tmp 73, .tmp 75]) rfl ?_); refine Kd.R_append (Kd.int .i64) (w0 := w) w.heap.size rfl (.tmp 73) (.tmp 75) 23 3 (.int .i64 0) 8 rfl Try.underlying23 info3 rfl (by decide) (by omega) (.slice B1 row.length b1) (out2.getD a.toNat []) (j : Int) [.int .i64 j] (fun z => oki1 z ∨ ((z < W1.heap.size ∨ W4.heap.size ≤ z) ∧ W8.heap.size ≤ z)) (fun _ => False) rfl rfl rfl (fun _ hk => hk.elim) (fun z hz => .inr ⟨.inr (Nat.le_trans HI8.out.2.2.2 hz), hz⟩) (by rw [Hrw.out]; exact HRr.out) HI8.out.2.2.1 HI8.out.2.2.1.size (by rw [← Hrw.out]; have := Hlen.out; omega) ?_; intro v1 W9 hR9 hB9 hg9 hat9
                             rw [Hrw.out] at hg9
                             obtain ⟨n1, n2, n3, n4⟩ := HNx.out v1 W9 _ hR9 hg9
                             obtain ⟨B9, b9, hv9⟩ := Kd.R_slice hR9; subst hv9
                             rw [← Hrw.out] at n1
                             have HS9 := Aside0.mk n3; have HG9 := Aside0.mk hg9; clear n3 n4 hR9 hB9 hg9 hat9 hz0 hz1)
                          | ((with_reducible refine gate_store (t := 23) (p := 77) rfl ?_); refine store_event (t := 23) (p := 77) (v := ?vo) (w1 := W9.setCell ⟨g2, a.toNat, none⟩ (.slice B9 ((out2.getD a.toNat []) ++ [(j : Int)]).length b9)) ?hg ?ho ?hn ?hr ?_; (case ho => rfl); (case hg => rfl); (case hn => rfl); (case hr => first | (go_simp; done) | (go_simp; rfl)); intro W10 hw
                             have hI10 := preds.I.next HI8.out (.inr HL2.out) HY2.out HZ1.out HG9.out HOwn.out HS9.out
                             rw [← hw] at hI10
                             obtain ⟨adt2, hAt2, ht2⟩ := Kd.at_int (HT.out W10 hI10.2.1) a a0 Ha8.out
                             injection hAt2 with hAt2; subst hAt2
                             have HI10 := Aside0.mk hI10; clear hw n1 n2 hI10))
                        go_roundg k1
                        case measure => have := HK1.out; omega
                        case rel => exact ⟨_, _, rfl, by rw [← Hrw.out]; exact Hup2, ⟨by have := HK1.out; omega⟩, HI10⟩
          · have hq2 : q = l.length := by omega
            subst hq2
            have hf1 := Hf2.out
            rw [List.drop_length, rims.row] at hf1
            obtain rfl := Option.some.inj hf1
            clear hf1 Hf2
            go_wp2
            go_roundw
            case rel => exact ⟨j + 1, _, by go_num, ⟨by omega⟩, HR1, HI2⟩
            case measure => simp [intOf]; omega
    · have hj2 : j = reach.length := by omega
      subst hj2
      have hf1 := Hf.out
      rw [List.drop_length, rims.all] at hf1
      obtain rfl := Option.some.inj hf1
      clear hf1 Hf
      go_wp2
      go_ret
      exact ⟨_, rfl, Kd.S_mono HI.out.1 (fun _ _ => trivial), HI.out.2.2.1⟩
end Go.Proofs.Ytjibojmbhbaneaa.PRm
