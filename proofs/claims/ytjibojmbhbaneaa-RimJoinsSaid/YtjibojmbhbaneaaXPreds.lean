/- graph.Preds: the blocks that go to each one. -/
import Derived.Test.YtjibojmbhbaneaaPRmx3
import Derived.Test.YtjibojmbhbaneaaXRows
namespace Go.Proofs.Ytjibojmbhbaneaa.PRm
open Go.RowKit Go.Proofs.YtjibojmbhbaneaaW.PrintWords Go.Proofs.YtjibojmbhbaneaaW.PrintLast Go.Proofs.YtjibojmbhbaneaaW.PrintMore Go.Proofs.Ytjibojmbhbaneaa.X
set_option linter.unusedVariables false
def preds.row (k : Int) : List Int → List (List Int) → Option (List (List Int))
  | [], out => some out
  | t :: l, out => if 0 ≤ t ∧ t < (out.length : Int) ∧ (out.getD t.toNat []).length < 17592186044415 then preds.row k l (out.set t.toNat (out.getD t.toNat [] ++ [k])) else none
def preds.all : List (List Int) → Int → List (List Int) → Option (List (List Int))
  | [], _, out => some out
  | l :: s, k, out => (preds.row k l out).bind fun out => preds.all s (k + 1) out
def graph_Preds.f (k : Nat) (a0_0 : ByteArray) (a0_1 : Int) (a0_2 : Int) (l0_3 : List Int) (l0_4 : List (List (S50))) : Option (List (List Int)) :=
  (graph_Succs.f k a0_0 a0_1 a0_2 l0_3 l0_4).bind fun s => if l0_4.length ≤ 11728124029610 then preds.all s 0 (List.replicate l0_4.length []) else none
theorem graph_Preds.mono : ∀ a0 a1 a2 a3 a4 k, LeO (graph_Preds.f k a0 a1 a2 a3 a4) (graph_Preds.f (k + 1) a0 a1 a2 a3 a4) := by
  intro a0 a1 a2 a3 a4 k
  exact LeO.bind (graph_Succs.mono _ _ _ _ _ _) (fun _ => LeO.refl _)
set_option maxHeartbeats 2000000 in
set_option maxRecDepth 100000 in
theorem graph_Preds.calls (k : Nat) (a0_0 : ByteArray) (a0_1 : Int) (a0_2 : Int) (A0_3 : Option Addr) (c0_3 : Nat) (l0_3 : List Int) (A0_4 : Option Addr) (c0_4 : Nat) (l0_4 : List (List (S50))) (r : List (List Int)) (w : World) (hr0_3 : Kd.C (Kd.int .i64) w A0_3 l0_3.length l0_3) (hc0_3 : l0_3.length ≤ c0_3) (hr0_4 : Kd.C (Kd.slice 50 k50) w A0_4 l0_4.length l0_4) (hc0_4 : l0_4.length ≤ c0_4) (h : graph_Preds.f k a0_0 a0_1 a0_2 l0_3 l0_4 = some r) :
    Calls Try.prog 35 #[.agg #[.string a0_0, .int .i64 a0_1, .int .i64 a0_2, .slice A0_3 l0_3.length c0_3, .slice A0_4 l0_4.length c0_4]] w fun e w' => ∃ v0_ : Value, e = .returned (v0_) ∧ Kd.S (Kd.slice 3 (Kd.int .i64)) 23 w' w.heap.size (fun _ => True) v0_ r ∧ Below w.heap.size w w' := by
  have HR3 := Aside0.mk hr0_3
  have HC3 := Aside0.mk hc0_3
  have HR4 := Aside0.mk hr0_4
  have HC4 := Aside0.mk hc0_4
  obtain ⟨s, h1, h2⟩ := Option.bind_eq_some_iff.1 h
  by_cases hl : l0_4.length ≤ 11728124029610
  case neg => rw [if_neg hl] at h2; exact absurd h2 (by simp)
  rw [if_pos hl] at h2
  have H1 := Aside0.mk h1
  have H2 := Aside0.mk h2
  clear hr0_3 hc0_3 hr0_4 hc0_4 h h1 h2
  have p0 : (0 : Int) ≤ (l0_4.length : Int) := by omega
  have hu30 := Try.underlying30
  go_enter Try.func35, Try.ntmps35
  go_wp2_with (first
    | ((with_reducible refine gate_dst (N := 1) rfl ?_); refine box_event ?hg (N := 1) ?hd (cs := #[.string a0_0, .int .i64 a0_1, .int .i64 a0_2, .slice A0_3 l0_3.length c0_3, .slice A0_4 l0_4.length c0_4]) (t := 30) ?hr ?_; (case hd => rfl); (case hg => rfl); (case hr => first | (go_simp; done) | (go_simp; rfl)); intro g0 hg0 W1 hb1 hB1
       have c4 : W1.cell? ⟨g0, 4, none⟩ = some (.slice A0_4 l0_4.length c0_4) := (blk_cell hb1 4).trans rfl
       have HB1 := Aside0.mk hB1; have Hb1 := Aside0.mk hb1; clear hg0 hb1 hB1)
    | ((with_reducible refine gate_dst (N := 11) rfl ?_); refine Kd.S_make (Kd.slice 3 (Kd.int .i64)) (w0 := w) w.heap.size 23 rfl (N := 11) rfl 22 _ _ rfl (l0_4.length : Int) rfl rfl Try.underlying22 (.slice none 0 0) 24 info23 rfl (by decide) (by omega) [] (ok := fun _ => True) (okp := fun _ => True) ⟨_, rfl, Kd.R_nil _ _ _ _ _⟩ (fun _ hk => hk) trivial (by omega) (by omega) HB1.out HB1.out.size ?_; intro v1 W2 hS2 hB2 hg2 hown2
       obtain ⟨g2, c2, hv, hl2, hg2'⟩ := R_form' (Kd.S_R hS2) hown2; rw [List.length_replicate, Int.toNat_natCast] at hv; subst hv; rw [Int.toNat_natCast] at hS2
       have y2 : w.heap.size ≤ g2 := Nat.le_trans HB1.out.size hg2'
       have hb2 := blk_grown Hb1.out hg2 (by simp)
       have e0 : W2.cell? ⟨g0, 0, none⟩ = some (.string a0_0) := (blk_cell hb2 0).trans rfl
       have e1 : W2.cell? ⟨g0, 1, none⟩ = some (.int .i64 a0_1) := (blk_cell hb2 1).trans rfl
       have e2 : W2.cell? ⟨g0, 2, none⟩ = some (.int .i64 a0_2) := (blk_cell hb2 2).trans rfl
       have e3 : W2.cell? ⟨g0, 3, none⟩ = some (.slice A0_3 l0_3.length c0_3) := (blk_cell hb2 3).trans rfl
       have e4 : W2.cell? ⟨g0, 4, none⟩ = some (.slice A0_4 l0_4.length c0_4) := (blk_cell hb2 4).trans rfl
       have HS2 := Aside0.mk hS2; have HB2 := Aside0.mk hB2; have HL2 := Aside0.mk hl2; have HY2 := Aside0.mk y2; clear hS2 hB2 hg2 hown2 hl2 hg2' hb2 y2)
    | (go_at_call 44; refine (graph_Succs.calls k a0_0 a0_1 a0_2 _ _ l0_3 _ _ l0_4 s _ (Kd.C_below HR3.out HB2.out) HC3.out (Kd.C_below HR4.out HB2.out) HC4.out H1.out).mono ?_; rintro e W3 ⟨v0, rfl, hS, hB3⟩; obtain ⟨A, c, hd, rfl, _, hF⟩ := Rows2.freeze (Kd.S_R hS)
       have HI := Aside0.mk (show preds.I w W2 W3 g2 c2 l0_4.length (List.replicate l0_4.length []) W3 from ⟨Kd.S_below (Kd.S_mono (Kd.S_bound HS2.out) (fun q hq => .inl hq.2.2.1)) hB3, fun _ _ _ => rfl, HB2.out.trans (hB3.mono HB2.out.size), Nat.le_refl _⟩)
       have HF := Aside0.mk hF; have HZ3 := Aside0.mk hB3.size; have HLs := Aside0.mk (show s.length ≤ 9223372036854775807 from (Kd.S_reads' hS).2.2.2.1); clear hF hB3 hS)
    )
  go_loopw [15] (fun i wr => ∃ (j : Nat) (out : List (List Int)), i = .int .i64 j ∧ Aside0 (j ≤ s.length) ∧ Aside0 (preds.all (s.drop j) j out = some r) ∧ Aside0 (preds.I w W2 W3 g2 c2 l0_4.length out wr)) (fun i _ => s.length - (intOf i).toNat)
  case atStart => exact ⟨0, _, rfl, ⟨Nat.zero_le _⟩, H2, HI⟩
  case round =>
    obtain ⟨j, out, rfl, ⟨hj⟩, Hf, HI⟩ := hrel
    clear HS2 HB2 e0 e1 e2 e3 e4
    by_cases hlt : j < s.length
    · have hcons : s.drop j = s[j] :: s.drop (j + 1) := List.drop_eq_getElem_cons hlt
      have hf1 := Hf.out
      rw [hcons, preds.all] at hf1
      obtain ⟨outF, hrow, hrest⟩ := Option.bind_eq_some_iff.1 hf1
      have HR1 := Aside0.mk hrest
      obtain ⟨l, hl⟩ : ∃ l, l = s[j] := ⟨_, rfl⟩
      rw [← hl] at hrow
      have hlg : s.getD j [] = l := by rw [hl]; simp [List.getD, hlt]
      obtain ⟨A0, c0, hA⟩ : ∃ A0 c0, hd j = (A0, c0) := ⟨_, _, rfl⟩
      obtain ⟨ad, hAd, hx, _, _⟩ := HF.out wr HI.out.2.1 j hlt
      have HC := Aside0.mk (show ∀ W : World, (∀ g, W2.heap.size ≤ g → g < W3.heap.size → W.heap[g]? = W3.heap[g]?) → (Kd.int .i64).C W A0 l.length l from fun W hW => by
        obtain ⟨_, _, _, _, q⟩ := HF.out W hW j hlt
        rw [hA, hlg] at q
        exact q)
      have p9 : l.length ≤ 9223372036854775807 := (HC.out wr HI.out.2.1).2.1
      have p8 := HLs.out
      have Hrow := Aside0.mk hrow
      rw [hA, hlg] at hx
      subst hAd
      clear hf1 hcons hrow hrest hl hlg hA Hf
      have p0j : (0 : Int) ≤ (j : Int) := by omega
      obtain ⟨wo, rfl⟩ : ∃ wo : World, wo = wr := ⟨_, rfl⟩
      go_wp2
      go_loopw [22] (fun i wi => ∃ (q : Nat) (out1 : List (List Int)), i = .int .i64 q ∧ Aside0 (q ≤ l.length) ∧ Aside0 (preds.row j (l.drop q) out1 = some outF) ∧ Aside0 (preds.I w W2 W3 g2 c2 l0_4.length out1 wi)) (fun i _ => l.length - (intOf i).toNat)
      case atStart => exact ⟨0, out, rfl, ⟨Nat.zero_le _⟩, Hrow, HI⟩
      case round =>
        obtain ⟨q, out1, rfl, ⟨hq⟩, Hf2, HI2⟩ := hrel
        clear hx HI Hrow
        by_cases hlt2 : q < l.length
        · have hcons : l.drop q = l[q] :: l.drop (q + 1) := List.drop_eq_getElem_cons hlt2
          have hf1 := Hf2.out
          rw [hcons, preds.row] at hf1
          obtain ⟨t, ht⟩ : ∃ t, t = l[q] := ⟨_, rfl⟩
          rw [← ht] at hf1
          by_cases hc : 0 ≤ t ∧ t < (out1.length : Int) ∧ (out1.getD t.toNat []).length < 17592186044415
          case neg => rw [if_neg hc] at hf1; exact absurd hf1 (by simp)
          rw [if_pos hc] at hf1
          obtain ⟨t0, t1, t2⟩ := hc
          obtain ⟨ad0, hA0, hx0⟩ := Kd.at_int (HC.out wr HI2.out.2.1) (q : Int) (by omega) (by omega)
          rw [show rd l (q : Int) = t from by rw [ht]; simp [rd, List.getD, hlt2], Int.toNat_natCast] at hx0
          subst hA0
          have hn : l0_4.length = out1.length := (Kd.S_reads' HI2.out.1).1
          have t3 : t < (l0_4.length : Int) := by rw [hn]; exact t1
          obtain ⟨B0, b0, oki, hy0, hy1, hoki, hR, hnext⟩ := rows_app HI2.out.1 t t0 t3
          have HRr := Aside0.mk hR
          have HOwn := Aside0.mk (show ∀ z, (Value.slice B0 (out1.getD t.toNat []).length b0).ownBlock = some z → w.heap.size ≤ z ∧ (z < W2.heap.size ∨ W3.heap.size ≤ z) from fun z hz => by
            have h7 := (Kd.R_bound hR).1 z hz
            refine ⟨h7.2.1, ?_⟩
            rcases h7.1 with h8 | h8
            · exact (hoki z h8).1
            · exact h8.1)
          have HNx := Aside0.mk hnext
          have HOk := Aside0.mk hoki
          have Hrest := Aside0.mk hf1
          have Hlen := Aside0.mk t2
          have q0 := eq_true t0
          have q3 := eq_true t3
          have p0q : (0 : Int) ≤ (q : Int) := by omega
          obtain ⟨m, hm⟩ : ∃ m, m = (out1.getD t.toNat []).length := ⟨_, rfl⟩
          have Hm := Aside0.mk hm
          rw [← hm] at hy0
          clear hcons hf1 ht hn hR hnext hoki hm t1 t2 Hf2
          go_wp2_with (first
            | ((with_reducible refine gate_builtin (b := .append) (xs := #[.tmp 31, .tmp 33]) rfl ?_); refine Kd.R_append (Kd.int .i64) (w0 := w) w.heap.size rfl (.tmp 31) (.tmp 33) 23 3 (.int .i64 0) 8 rfl Try.underlying23 info3 rfl (by decide) (by omega) (.slice B0 m b0) (out1.getD t.toNat []) (j : Int) [.int .i64 j] (fun z => oki z ∨ ((z < W2.heap.size ∨ W3.heap.size ≤ z) ∧ wr.heap.size ≤ z)) (fun _ => False) rfl rfl rfl (fun _ hk => hk.elim) (fun z hz => .inr ⟨.inr (Nat.le_trans HI2.out.2.2.2 hz), hz⟩) (by rw [Hm.out]; exact HRr.out) HI2.out.2.2.1 HI2.out.2.2.1.size (by have := Hlen.out; omega) ?_; intro v1 W5 hR5 hB5 hg5 hat5
               rw [Hm.out] at hg5
               obtain ⟨n1, n2, n3, n4⟩ := HNx.out v1 W5 _ hR5 hg5
               obtain ⟨B5, b5, hv5⟩ := Kd.R_slice hR5; subst hv5
               rw [← Hm.out] at n1
               have HS5 := Aside0.mk n3; have HG5 := Aside0.mk hg5; clear n3 n4 hR5 hB5 hg5 hat5)
            | ((with_reducible refine gate_store (t := 23) (p := 35) rfl ?_); refine store_event (t := 23) (p := 35) (v := ?vo) (w1 := W5.setCell ⟨g2, t.toNat, none⟩ (.slice B5 ((out1.getD t.toNat []) ++ [(j : Int)]).length b5)) ?hg ?ho ?hn ?hr ?_; (case ho => rfl); (case hg => rfl); (case hn => rfl); (case hr => first | (go_simp; done) | (go_simp; rfl)); intro W6 hw; have HW6 := Aside0.mk hw; clear hw n1 n2))
          have hw := HW6.out
          have hI6 := preds.I.next HI2.out (.inl HL2.out) HY2.out HZ3.out HG5.out HOwn.out HS5.out
          rw [← hw] at hI6
          have HI6 := Aside0.mk hI6
          go_roundw
          case rel => exact ⟨q + 1, _, by go_num, ⟨by omega⟩, Hrest, HI6⟩
          case measure => simp [intOf]; omega
        · have hq2 : q = l.length := by omega
          subst hq2
          have hf1 := Hf2.out
          rw [List.drop_length, preds.row] at hf1
          obtain rfl := Option.some.inj hf1
          clear hf1 Hf2
          go_wp2
          go_roundw
          case rel => exact ⟨j + 1, _, by go_num, ⟨by omega⟩, HR1, HI2⟩
          case measure => simp [intOf]; omega
    · have hj2 : j = s.length := by omega
      subst hj2
      have hf1 := Hf.out
      rw [List.drop_length, preds.all] at hf1
      obtain rfl := Option.some.inj hf1
      clear hf1 Hf
      have p8 := HLs.out
      go_wp2
      go_ret
      exact ⟨_, rfl, Kd.S_mono HI.out.1 (fun _ _ => trivial), HI.out.2.2.1⟩
end Go.Proofs.Ytjibojmbhbaneaa.PRm
