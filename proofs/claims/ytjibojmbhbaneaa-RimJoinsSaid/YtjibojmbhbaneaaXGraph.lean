/- graph.Without, graph.Order: which blocks are reached, not through one; the order of reached blocks. -/
import Derived.Test.YtjibojmbhbaneaaPRmx3
import Derived.Test.YtjibojmbhbaneaaPRmx4
import Derived.Test.YtjibojmbhbaneaaXThr
namespace Go.Proofs.Ytjibojmbhbaneaa.PRm
open Go.RowKit Go.Proofs.YtjibojmbhbaneaaW.PrintWords Go.Proofs.YtjibojmbhbaneaaW.PrintLast Go.Proofs.YtjibojmbhbaneaaW.PrintMore Go.Proofs.Ytjibojmbhbaneaa.X
set_option linter.unusedVariables false
def graph_Without.f (k : Nat) (a0_0 : ByteArray) (a0_1 : Int) (a0_2 : Int) (l0_3 : List Int) (l0_4 : List (List (S50))) (a1 : Int) : Option (List Bool) :=
  (graph_Succs.f k a0_0 a0_1 a0_2 l0_3 l0_4).bind fun s => if s.length ≤ 281474976710656 then (thr.go s a1).map (·.1) else none
theorem graph_Without.mono : ∀ a0 a1 a2 a3 a4 a5 k, LeO (graph_Without.f k a0 a1 a2 a3 a4 a5) (graph_Without.f (k + 1) a0 a1 a2 a3 a4 a5) := by
  intro a0 a1 a2 a3 a4 a5 k
  exact LeO.bind (graph_Succs.mono _ _ _ _ _ _) (fun _ => LeO.refl _)
theorem without_left (w : World) (x : Int) : Calls Try.prog 80 #[.int .i64 x] w fun e w' => e = .returned (.tuple #[]) ∧ w' = w := by
  go_enter Try.func80, Try.ntmps80
  go_wp2
  go_end0
  exact ⟨rfl, rfl⟩
set_option maxHeartbeats 1000000 in
set_option maxRecDepth 100000 in
theorem graph_Without.calls (k : Nat) (a0_0 : ByteArray) (a0_1 : Int) (a0_2 : Int) (A0_3 : Option Addr) (c0_3 : Nat) (l0_3 : List Int) (A0_4 : Option Addr) (c0_4 : Nat) (l0_4 : List (List (S50))) (a1 : Int) (r : List Bool) (w : World) (hr0_3 : Kd.C (Kd.int .i64) w A0_3 l0_3.length l0_3) (hc0_3 : l0_3.length ≤ c0_3) (hr0_4 : Kd.C (Kd.slice 50 k50) w A0_4 l0_4.length l0_4) (hc0_4 : l0_4.length ≤ c0_4) (h : graph_Without.f k a0_0 a0_1 a0_2 l0_3 l0_4 a1 = some r) :
    Calls Try.prog 56 #[.agg #[.string a0_0, .int .i64 a0_1, .int .i64 a0_2, .slice A0_3 l0_3.length c0_3, .slice A0_4 l0_4.length c0_4], .int .i64 a1] w fun e w' => ∃ v0_ : Value, e = .returned (v0_) ∧ Kd.R Kd.bool 4 w' w.heap.size (fun _ => True) v0_ r ∧ Below w.heap.size w w' := by
  have HR3 := Aside0.mk hr0_3
  have HC3 := Aside0.mk hc0_3
  have HR4 := Aside0.mk hr0_4
  have HC4 := Aside0.mk hc0_4
  obtain ⟨s, h1, h2⟩ := Option.bind_eq_some_iff.1 h
  by_cases hl : s.length ≤ 281474976710656
  case neg => rw [if_neg hl] at h2; exact absurd h2 (by simp)
  rw [if_pos hl] at h2
  obtain ⟨r2, h3, rfl⟩ := Option.map_eq_some_iff.1 h2
  have H1 := Aside0.mk h1
  have H3 := Aside0.mk h3
  have HL := Aside0.mk hl
  clear hr0_3 hc0_3 hr0_4 hc0_4 h h1 h2 h3 hl
  have hu30 := Try.underlying30
  go_enter Try.func56, Try.ntmps56
  go_wp2_with (first
    | ((with_reducible refine gate_dst (N := 2) rfl ?_); refine box_event ?hg (N := 2) ?hd (cs := #[.string a0_0, .int .i64 a0_1, .int .i64 a0_2, .slice A0_3 l0_3.length c0_3, .slice A0_4 l0_4.length c0_4]) (t := 30) ?hr ?_; (case hd => rfl); (case hg => rfl); (case hr => first | (go_simp; done) | (go_simp; rfl)); intro g0 hg0 W1 hb1 hB1
       have c0 : W1.cell? ⟨g0, 0, none⟩ = some (.string a0_0) := (blk_cell hb1 0).trans rfl
       have c1 : W1.cell? ⟨g0, 1, none⟩ = some (.int .i64 a0_1) := (blk_cell hb1 1).trans rfl
       have c2 : W1.cell? ⟨g0, 2, none⟩ = some (.int .i64 a0_2) := (blk_cell hb1 2).trans rfl
       have c3 : W1.cell? ⟨g0, 3, none⟩ = some (.slice A0_3 l0_3.length c0_3) := (blk_cell hb1 3).trans rfl
       have c4 : W1.cell? ⟨g0, 4, none⟩ = some (.slice A0_4 l0_4.length c0_4) := (blk_cell hb1 4).trans rfl
       have HB1 := Aside0.mk hB1; clear hg0 hb1 hB1)
    | (go_at_call 44; refine (graph_Succs.calls k a0_0 a0_1 a0_2 _ _ l0_3 _ _ l0_4 s _ (Kd.C_below HR3.out HB1.out) HC3.out (Kd.C_below HR4.out HB1.out) HC4.out H1.out).mono ?_; rintro e W2 ⟨v0, rfl, hS, hB2⟩; obtain ⟨A, c, hd, rfl, _, hF⟩ := Rows2.freeze (Kd.S_R hS); have HF := Aside0.mk hF; have HB2 := Aside0.mk hB2; clear hF hB2 hS)
    | (go_at_call 77; refine (thr.through (s := s) (As := A) (lb := #[]) Try.func80 (by kernel_rfl) rfl W2 (fun T out W => Below W2.heap.size W2 W) (hd := hd) (fun T out W hW => HF.out W (fun g _ hg => hW.block g hg)) (by have := HL.out; omega) HL.out (fun _ _ => Below.refl _ _) (fun T out W W1 hb hT hk => hk.below hb hb.size hT) (fun T out W x hb _ hT hl => (without_left W x).mono (by rintro e w' ⟨rfl, rfl⟩; exact ⟨rfl, hb, fun _ _ => rfl⟩)) r2 H3.out).mono ?_; rintro e W3 ⟨v3, T, rfl, hT, hR3, hB3⟩; obtain ⟨A3, c3, hv3⟩ := Kd.R_slice hR3; subst hv3; have HR := Aside0.mk hR3; have HB3 := Aside0.mk hB3; clear hR3 hB3 hT)
    )
  go_ret
  exact ⟨_, rfl, R_ok_bool (Kd.R_lower HR.out (Nat.le_trans HB1.out.size HB2.out.size)) (fun _ _ => trivial), (HB1.out.trans (HB2.out.mono HB1.out.size)).trans (HB3.out.mono (Nat.le_trans HB1.out.size HB2.out.size))⟩
def graph_Order.f (k : Nat) (a0_0 : ByteArray) (a0_1 : Int) (a0_2 : Int) (l0_3 : List Int) (l0_4 : List (List (S50))) : Option (List Int) :=
  (graph_Succs.f k a0_0 a0_1 a0_2 l0_3 l0_4).bind fun s => if s.length ≤ 281474976710656 then (thr.go s (-1)).bind fun r => slices_Reverse_int_int.f k r.2 else none
theorem graph_Order.mono : ∀ a0 a1 a2 a3 a4 k, LeO (graph_Order.f k a0 a1 a2 a3 a4) (graph_Order.f (k + 1) a0 a1 a2 a3 a4) := by
  intro a0 a1 a2 a3 a4 k
  exact LeO.bind (graph_Succs.mono _ _ _ _ _ _) (fun _ => LeO.ite (LeO.bind (LeO.refl _) (fun _ => slices_Reverse_int_int.mono _ _)) (LeO.none _))
/-- What lies behind the variable at block g: a row of the call's own. -/
def order.J (w0 W2 W3 : World) (g : Nat) (T : Nat → Prop) (out : List Int) (W : World) : Prop :=
  ∃ v, W.heap[g]? = some (.cells #[v] 23 (0, 0)) ∧ Kd.R (Kd.int .i64) 3 W w0.heap.size (fun k => ¬ T k ∧ k ≠ g ∧ W3.heap.size ≤ k) v out ∧ (∀ i, W2.heap.size ≤ i → i < W3.heap.size → W.heap[i]? = W3.heap[i]?) ∧ Below w0.heap.size w0 W ∧ W3.heap.size ≤ W.heap.size
set_option maxHeartbeats 1000000 in
set_option maxRecDepth 100000 in
theorem order.left (w0 W2 W3 : World) (g : Nat) (T : Nat → Prop) (out : List Int) (W : World) (x : Int) (hg0 : w0.heap.size ≤ g) (hg1 : g < W2.heap.size) (hz : W2.heap.size ≤ W3.heap.size) (hJ : order.J w0 W2 W3 g T out W) (hlen : out.length < 17592186044415)
    (hT : ∀ i, T i → W3.heap.size ≤ i) (hl : ∀ i, T i → i < W.heap.size) :
    Calls Try.prog 78 #[.int .i64 x, .pointer (some ⟨g, 0, none⟩)] W fun e W' => e = .returned (.tuple #[]) ∧ order.J w0 W2 W3 g T (out ++ [x]) W' ∧ (∀ i, T i → W'.heap[i]? = W.heap[i]?) := by
  obtain ⟨v, hb, hR, hK, hB, hz3⟩ := hJ
  have hgW := blk_lt hb
  obtain ⟨A, c, rfl⟩ := Kd.R_slice hR
  have c0 : W.cell? ⟨g, 0, none⟩ = some (.slice A out.length c) := (blk_cell hb 0).trans rfl
  have HR := Aside0.mk hR
  have HK := Aside0.mk hK
  have HB := Aside0.mk hB
  have Hb := Aside0.mk hb
  have HT := Aside0.mk hT
  have HL := Aside0.mk hl
  clear hb hR hK hB hT hl
  go_enter Try.func78, Try.ntmps78
  go_wp2_with (first
    | ((with_reducible refine gate_dst (N := 6) rfl ?_); refine Kd.R_append (Kd.int .i64) (w0 := w0) w0.heap.size rfl (.tmp 3) (.tmp 5) 23 3 (.int .i64 0) 8 rfl Try.underlying23 info3 rfl (by decide) (by omega) (.slice A out.length c) out x [.int .i64 x] (fun k => ¬ T k ∧ k ≠ g ∧ W3.heap.size ≤ k) (fun _ => False) rfl rfl rfl (fun _ hk => hk.elim) (fun k hk => ⟨fun ht => by have := HL.out k ht; omega, by omega, by omega⟩) HR.out HB.out HB.out.size (by omega) ?_; intro v1 W4 hR4 hB4 hg4 hat4; obtain ⟨A4, c4, hv4⟩ := Kd.R_slice hR4; subst hv4
       have hne : ∀ i, some i = (Value.slice A out.length c).ownBlock → ¬ T i ∧ i ≠ g ∧ W3.heap.size ≤ i := fun i hi => HR.out.1 i hi.symm
       have hb4 := blk_grown Hb.out hg4 (fun e => (hne g e).2.1 rfl)
       have d0 : W4.cell? ⟨g, 0, none⟩ = some (.slice A out.length c) := (blk_cell hb4 0).trans rfl; have d1 := blk_frozen hb4 0
       have HR4 := Aside0.mk hR4; have HB4 := Aside0.mk hB4; have Hb4 := Aside0.mk hb4; have HG4 := Aside0.mk hg4; have HN := Aside0.mk hne; clear hR4 hB4 hg4 hat4 hb4 hne)
    | ((with_reducible refine gate_store (t := 23) (p := 1) rfl ?_); refine store_event (t := 23) (p := 1) (v := ?vo) (w1 := W4.setCell ⟨g, 0, none⟩ (.slice A4 (out ++ [x]).length c4)) ?hg ?ho ?hn ?hr ?_; (case ho => rfl); (case hg => rfl); (case hn => rfl); (case hr => first | (go_simp; done) | (go_simp; rfl)); intro W5 hw; have HW := Aside0.mk hw; clear hw))
  refine bodyPost_end (results_none rfl _ _ _) rfl ?_
  refine ⟨rfl, ⟨.slice A4 (out ++ [x]).length c4, ?_, ?_, ?_, ?_, ?_⟩, ?_⟩
  · rw [HW.out]; exact blk_put Hb4.out 0 _ rfl
  · rw [HW.out]; exact Kd.R_far HR4.out (p := ⟨g, 0, none⟩) (fun k hk => hk.2.1) _
  · intro i h1 h2
    rw [HW.out, Below.heap_setCell W4 ⟨g, 0, none⟩ _ i (by show i ≠ g; omega), HG4.out.block i (by omega) (fun e => by have := (HN.out i e).2.2; omega)]
    exact HK.out i h1 h2
  · rw [HW.out]; exact HB4.out.setCell (p := ⟨g, 0, none⟩) hg0 _
  · rw [HW.out]; have := HG4.out.size; simp; omega
  · intro i hi
    have h1 := HT.out i hi
    rw [HW.out, Below.heap_setCell W4 ⟨g, 0, none⟩ _ i (by show i ≠ g; omega)]
    exact HG4.out.block i (HL.out i hi) (fun e => (HN.out i e).1 hi)
set_option maxHeartbeats 1000000 in
set_option maxRecDepth 100000 in
theorem graph_Order.calls (k : Nat) (a0_0 : ByteArray) (a0_1 : Int) (a0_2 : Int) (A0_3 : Option Addr) (c0_3 : Nat) (l0_3 : List Int) (A0_4 : Option Addr) (c0_4 : Nat) (l0_4 : List (List (S50))) (r : List Int) (w : World) (hr0_3 : Kd.C (Kd.int .i64) w A0_3 l0_3.length l0_3) (hc0_3 : l0_3.length ≤ c0_3) (hr0_4 : Kd.C (Kd.slice 50 k50) w A0_4 l0_4.length l0_4) (hc0_4 : l0_4.length ≤ c0_4) (h : graph_Order.f k a0_0 a0_1 a0_2 l0_3 l0_4 = some r) :
    Calls Try.prog 54 #[.agg #[.string a0_0, .int .i64 a0_1, .int .i64 a0_2, .slice A0_3 l0_3.length c0_3, .slice A0_4 l0_4.length c0_4]] w fun e w' => ∃ v0_ : Value, e = .returned (v0_) ∧ Kd.R (Kd.int .i64) 3 w' w.heap.size (fun _ => True) v0_ r ∧ Below w.heap.size w w' := by
  have HR3 := Aside0.mk hr0_3
  have HC3 := Aside0.mk hc0_3
  have HR4 := Aside0.mk hr0_4
  have HC4 := Aside0.mk hc0_4
  obtain ⟨s, h1, h2⟩ := Option.bind_eq_some_iff.1 h
  by_cases hl : s.length ≤ 281474976710656
  case neg => rw [if_neg hl] at h2; exact absurd h2 (by simp)
  rw [if_pos hl] at h2
  obtain ⟨r2, h3, h4⟩ := Option.bind_eq_some_iff.1 h2
  have H1 := Aside0.mk h1
  have H3 := Aside0.mk h3
  have H4 := Aside0.mk h4
  have HL := Aside0.mk hl
  clear hr0_3 hc0_3 hr0_4 hc0_4 h h1 h2 h3 h4 hl
  have hu30 := Try.underlying30
  go_enter Try.func54, Try.ntmps54
  go_wp2_with (first
    | ((with_reducible refine gate_dst (N := 1) rfl ?_); refine box_event ?hg (N := 1) ?hd (cs := #[.string a0_0, .int .i64 a0_1, .int .i64 a0_2, .slice A0_3 l0_3.length c0_3, .slice A0_4 l0_4.length c0_4]) (t := 30) ?hr ?_; (case hd => rfl); (case hg => rfl); (case hr => first | (go_simp; done) | (go_simp; rfl)); intro g0 hg0 W1 hb1 hB1
       have HB1 := Aside0.mk hB1; have Hb1 := Aside0.mk hb1; clear hg0 hb1 hB1)
    | ((with_reducible refine gate_dst (N := 3) rfl ?_); refine box_event ?hg (N := 3) ?hd (cs := #[.slice none 0 0]) (t := 23) ?hr ?_; (case hd => rfl); (case hg => rfl); (case hr => first | (go_simp; done) | (go_simp; rfl)); intro g3 hg3 W2 hb3 hB3
       have hb1 := Hb1.out; have hb2 := blk_below hb1 hB3
       have c0 : W2.cell? ⟨g0, 0, none⟩ = some (.string a0_0) := (blk_cell hb2 0).trans rfl
       have c1 : W2.cell? ⟨g0, 1, none⟩ = some (.int .i64 a0_1) := (blk_cell hb2 1).trans rfl
       have c2 : W2.cell? ⟨g0, 2, none⟩ = some (.int .i64 a0_2) := (blk_cell hb2 2).trans rfl
       have c3 : W2.cell? ⟨g0, 3, none⟩ = some (.slice A0_3 l0_3.length c0_3) := (blk_cell hb2 3).trans rfl
       have c4 : W2.cell? ⟨g0, 4, none⟩ = some (.slice A0_4 l0_4.length c0_4) := (blk_cell hb2 4).trans rfl
       have z3 : w.heap.size ≤ g3 := by (rw [hg3]; exact HB1.out.size)
       have HB2 := Aside0.mk (HB1.out.trans (hB3.mono HB1.out.size)); have Hb3 := Aside0.mk hb3; clear hg3 hb1 hb2 hb3 hB3)
    | (go_at_call 44; refine (graph_Succs.calls k a0_0 a0_1 a0_2 _ _ l0_3 _ _ l0_4 s _ (Kd.C_below HR3.out HB2.out) HC3.out (Kd.C_below HR4.out HB2.out) HC4.out H1.out).mono ?_; rintro e W3 ⟨v0, rfl, hS, hB3⟩; obtain ⟨A, c, hd, rfl, _, hF⟩ := Rows2.freeze (Kd.S_R hS); have HF := Aside0.mk hF; have HB3 := Aside0.mk hB3; clear hF hB3 hS)
    | (go_at_call 77
       have hJ0 : ∀ T : Nat → Prop, (∀ i, T i → W3.heap.size ≤ i) → order.J w W2 W3 g3 T [] W3 := fun T hT => ⟨_, (HB3.out.block g3 (blk_lt Hb3.out)).trans Hb3.out, Kd.R_nil _ _ _ _ _, fun _ _ _ => rfl, HB2.out.trans (HB3.out.mono HB2.out.size), Nat.le_refl _⟩
       refine (thr.through (s := s) (As := A) (lb := #[.pointer (some ⟨g3, 0, none⟩)]) Try.func78 (by kernel_rfl) rfl W3 (order.J w W2 W3 g3) (hd := hd) (fun T out W hW => HF.out W (by obtain ⟨_, _, _, hK, _⟩ := hW; exact hK)) (by have := HL.out; omega) HL.out hJ0 ?hk (fun T out W x hJ hr hT hl => order.left w W2 W3 g3 T out W x z3 (blk_lt Hb3.out) HB3.out.size hJ hr hT hl) r2 H3.out).mono ?_
       case hk =>
         rintro T out W W1 ⟨v, q1, q2, q3, q4, q5⟩ hT hk
         have hg3 := blk_lt Hb3.out
         have hz := HB3.out.size
         have hw := HB2.out.size
         exact ⟨v, (hk.block g3 (blk_lt q1) (fun ht => by have := hT _ ht; omega)).trans q1, Kd.R_step q2 (fun i hi hlt => hk.block i hlt hi.1), fun i h1 h2 => (hk.block i (by omega) (fun ht => by have := hT _ ht; omega)).trans (q3 i h1 h2), hk.below q4 q4.size (fun i ht => by have := hT _ ht; omega), Nat.le_trans q5 hk.size⟩
       rintro e W4 ⟨v3, T, rfl, hT, hR3, v4, q1, q2, q3, q4, q5⟩
       obtain ⟨A3, c3', hv3⟩ := Kd.R_slice hR3; subst hv3
       obtain ⟨A4, c4', hv4⟩ := Kd.R_slice q2; subst hv4
       have d0 : W4.cell? ⟨g3, 0, none⟩ = some (.slice A4 r2.2.length c4') := (blk_cell q1 0).trans rfl
       have HR := Aside0.mk q2; have HB4 := Aside0.mk q4; have Hq := Aside0.mk q1; clear hR3 q1 q2 q3 q4 q5 hT hJ0)
    | (go_at_call 79
       refine (slices_Reverse_int_int.calls k (fun k => some k = (Value.slice A4 r2.2.length c4').ownBlock) (.slice A4 r2.2.length c4') r2.2 r w W4 HB4.out (R_ok_int (ok' := fun k => some k = (Value.slice A4 r2.2.length c4').ownBlock) HR.out (fun _ hk => hk.symm)) H4.out).mono ?_
       rintro e W5 ⟨rfl, hR5, hB5, hK5⟩
       have d1 : W5.cell? ⟨g3, 0, none⟩ = some (.slice A4 r2.2.length c4') := (cell_heap (hK5.2 g3 (blk_lt Hq.out) (fun e => (HR.out.1 g3 e.symm).2.1 rfl))).trans d0
       have HR5 := Aside0.mk hR5; have HB5 := Aside0.mk hB5; clear hR5 hB5 hK5)
    )
  go_ret
  exact ⟨_, rfl, R_ok_int HR5.out (fun _ _ => trivial), HB5.out⟩
end Go.Proofs.Ytjibojmbhbaneaa.PRm
