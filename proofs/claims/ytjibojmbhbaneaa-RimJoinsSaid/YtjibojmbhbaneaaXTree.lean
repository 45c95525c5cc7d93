/- dom.Tree: blocks' next dominators, by going round until none changes. -/
import Derived.Test.YtjibojmbhbaneaaPRmx4
import Derived.Test.YtjibojmbhbaneaaXPreds
import Derived.Test.YtjibojmbhbaneaaXGraph
namespace Go.Proofs.Ytjibojmbhbaneaa.PRm
open Go.RowKit Go.Proofs.YtjibojmbhbaneaaW.PrintWords Go.Proofs.YtjibojmbhbaneaaW.PrintLast Go.Proofs.YtjibojmbhbaneaaW.PrintMore Go.Proofs.Ytjibojmbhbaneaa.X
set_option linter.unusedVariables false
def dtree.places : List Int → Int → List Int → Option (List Int)
  | [], _, place => some place
  | b :: l, i, place => if 0 ≤ b ∧ b < (place.length : Int) then dtree.places l (i + 1) (place.set b.toNat i) else none
def dtree.pick (k : Nat) (tree place : List Int) (done : List Bool) : List Int → Int → Option Int
  | [], next => some next
  | p :: l, next =>
    if 0 ≤ p ∧ p < (place.length : Int) ∧ p < (done.length : Int) then
      if rd place p < 0 then dtree.pick k tree place done l next
      else if rdOf false done p = false then dtree.pick k tree place done l next
      else if next < 0 then dtree.pick k tree place done l p
      else (dom_meet.f k tree place next p).bind fun n => dtree.pick k tree place done l n
    else none
def dtree.sweep (k : Nat) (preds : List (List Int)) (place : List Int) : List Int → List Int × List Bool × Bool → Option (List Int × List Bool × Bool)
  | [], st => some st
  | b :: l, st =>
    if 0 ≤ b ∧ b < (preds.length : Int) ∧ b < (st.1.length : Int) ∧ b < (st.2.1.length : Int) then
      (dtree.pick k st.1 place st.2.1 (preds.getD b.toNat []) (-1)).bind fun next => dtree.sweep k preds place l (st.1.set b.toNat next, st.2.1.set b.toNat true, st.2.2 || next != rd st.1 b)
    else none
def dtree.rounds (k : Nat) (preds : List (List Int)) (place order : List Int) : Nat → List Int × List Bool → Option (List Int)
  | 0, _ => none
  | n + 1, st =>
    if 0 < order.length then
      if 0 < st.2.length then
        (dtree.sweep k preds place order.tail (st.1, st.2.set 0 true, false)).bind fun st1 => if st1.2.2 = true then dtree.rounds k preds place order n (st1.1, st1.2.1) else some st1.1
      else none
    else some st.1
def dom_Tree.f (k : Nat) (a0_0 : ByteArray) (a0_1 : Int) (a0_2 : Int) (l0_3 : List Int) (l0_4 : List (List (S50))) : Option (List Int) :=
  (graph_Order.f k a0_0 a0_1 a0_2 l0_3 l0_4).bind fun order => (graph_Preds.f k a0_0 a0_1 a0_2 l0_3 l0_4).bind fun preds =>
    if l0_4.length ≤ 35184372088832 then
      (dtree.places order 0 (List.replicate l0_4.length (-1))).bind fun place => dtree.rounds k preds place order k (List.replicate l0_4.length (-1), List.replicate l0_4.length false)
    else none
theorem dtree.pick_mono (k : Nat) (tree place : List Int) (done : List Bool) : ∀ l next, LeO (dtree.pick k tree place done l next) (dtree.pick (k + 1) tree place done l next)
  | [], _ => LeO.refl _
  | p :: l, next => by
    unfold dtree.pick
    refine LeO.ite (LeO.ite (dtree.pick_mono k tree place done l _) (LeO.ite (dtree.pick_mono k tree place done l _) (LeO.ite (dtree.pick_mono k tree place done l _) (LeO.bind (dom_meet.mono _ _ _ _ _) (fun n => dtree.pick_mono k tree place done l n))))) (LeO.none _)
theorem dtree.sweep_mono (k : Nat) (preds : List (List Int)) (place : List Int) : ∀ l st, LeO (dtree.sweep k preds place l st) (dtree.sweep (k + 1) preds place l st)
  | [], _ => LeO.refl _
  | b :: l, st => by
    unfold dtree.sweep
    exact LeO.ite (LeO.bind (dtree.pick_mono _ _ _ _ _ _) (fun _ => dtree.sweep_mono k preds place l _)) (LeO.none _)
theorem dtree.rounds_mono (k : Nat) (preds : List (List Int)) (place order : List Int) : ∀ n st, LeO (dtree.rounds k preds place order n st) (dtree.rounds (k + 1) preds place order (n + 1) st)
  | 0, _ => LeO.none _
  | n + 1, st => by
    rw [dtree.rounds, dtree.rounds]
    exact LeO.ite (LeO.ite (LeO.bind (dtree.sweep_mono _ _ _ _ _) (fun _ => LeO.ite (dtree.rounds_mono k preds place order n _) (LeO.refl _))) (LeO.none _)) (LeO.refl _)
theorem dom_Tree.mono : ∀ a0 a1 a2 a3 a4 k, LeO (dom_Tree.f k a0 a1 a2 a3 a4) (dom_Tree.f (k + 1) a0 a1 a2 a3 a4) := by
  intro a0 a1 a2 a3 a4 k
  exact LeO.bind (graph_Order.mono _ _ _ _ _ _) (fun _ => LeO.bind (graph_Preds.mono _ _ _ _ _ _) (fun _ => LeO.ite (LeO.bind (LeO.refl _) (fun _ => dtree.rounds_mono _ _ _ _ _ _)) (LeO.none _)))
theorem dtree.set_rep (j m : Nat) (h0 : 0 < m) : (List.replicate j (-1 : Int) ++ List.replicate m 0).set j (-1) = List.replicate (j + 1) (-1) ++ List.replicate (m - 1) 0 := by
  obtain ⟨m, rfl⟩ : ∃ q, m = q + 1 := ⟨m - 1, by omega⟩
  rw [List.set_append_right _ _ (by simp), List.replicate_succ' (n := j), List.append_assoc, List.length_replicate, Nat.sub_self, List.replicate_succ (n := m), List.set_cons_zero, Nat.add_sub_cancel]
  rfl
/-- The rows that are written; what was made between Wa and Wb stands. -/
structure dtree.S (w Wa Wb : World) (gT gP cT cP n : Nat) (tree place : List Int) (W : World) : Prop where
  t : Kd.R (Kd.int .i64) 3 W w.heap.size (fun k => k = gT) (.slice (some ⟨gT, 0, none⟩) n cT) tree
  p : Kd.R (Kd.int .i64) 3 W w.heap.size (fun k => k = gP) (.slice (some ⟨gP, 0, none⟩) n cP) place
  ne : gT ≠ gP
  fr : ∀ q, Wa.heap.size ≤ q → q < Wb.heap.size → W.heap[q]? = Wb.heap[q]?
  bel : Below w.heap.size w W
  sz : Wb.heap.size ≤ W.heap.size
  lo : w.heap.size ≤ Wb.heap.size
  gt : Wb.heap.size ≤ gT
  gp : Wb.heap.size ≤ gP
section
variable {w Wa Wb W : World} {gT gP cT cP n : Nat} {tree place : List Int}
theorem dtree.S.setT (h : dtree.S w Wa Wb gT gP cT cP n tree place W) (i x : Int) : dtree.S w Wa Wb gT gP cT cP n (tree.set i.toNat x) place (W.setCell ⟨gT, i.toNat, none⟩ (.int .i64 x)) :=
  ⟨(Kd.R_putg h.t i x).1, Kd.R_far h.p (p := ⟨gT, i.toNat, none⟩) (fun k hk => by rw [hk]; exact fun e => h.ne e.symm) _, h.ne,
    fun q h1 h2 => (Below.heap_setCell W ⟨gT, i.toNat, none⟩ _ q (by show q ≠ gT; have := h.gt; omega)).trans (h.fr q h1 h2), h.bel.setCell (p := ⟨gT, i.toNat, none⟩) (by show w.heap.size ≤ gT; have := h.gt; have := h.lo; omega) _, by simpa using h.sz, h.lo, h.gt, h.gp⟩
theorem dtree.S.setP (h : dtree.S w Wa Wb gT gP cT cP n tree place W) (i x : Int) : dtree.S w Wa Wb gT gP cT cP n tree (place.set i.toNat x) (W.setCell ⟨gP, i.toNat, none⟩ (.int .i64 x)) :=
  ⟨Kd.R_far h.t (p := ⟨gP, i.toNat, none⟩) (fun k hk => by rw [hk]; exact h.ne) _, (Kd.R_putg h.p i x).1, h.ne,
    fun q h1 h2 => (Below.heap_setCell W ⟨gP, i.toNat, none⟩ _ q (by show q ≠ gP; have := h.gp; omega)).trans (h.fr q h1 h2), h.bel.setCell (p := ⟨gP, i.toNat, none⟩) (by show w.heap.size ≤ gP; have := h.gp; have := h.lo; omega) _, by simpa using h.sz, h.lo, h.gt, h.gp⟩
theorem dtree.S.other (h : dtree.S w Wa Wb gT gP cT cP n tree place W) {g : Nat} (h1 : g ≠ gT) (h2 : g ≠ gP) (hg : Wb.heap.size ≤ g) (o : Nat) (v : Value) : dtree.S w Wa Wb gT gP cT cP n tree place (W.setCell ⟨g, o, none⟩ v) :=
  ⟨Kd.R_far h.t (p := ⟨g, o, none⟩) (fun k hk => by rw [hk]; exact fun e => h1 e.symm) _, Kd.R_far h.p (p := ⟨g, o, none⟩) (fun k hk => by rw [hk]; exact fun e => h2 e.symm) _, h.ne,
    fun q q1 q2 => (Below.heap_setCell W ⟨g, o, none⟩ _ q (by show q ≠ g; omega)).trans (h.fr q q1 q2), h.bel.setCell (p := ⟨g, o, none⟩) (by show w.heap.size ≤ g; have := h.lo; omega) _, by simpa using h.sz, h.lo, h.gt, h.gp⟩
theorem dtree.S.below {W1 : World} (h : dtree.S w Wa Wb gT gP cT cP n tree place W) (hb : Below W.heap.size W W1) : dtree.S w Wa Wb gT gP cT cP n tree place W1 :=
  ⟨Kd.R_below h.t hb, Kd.R_below h.p hb, h.ne, fun q h1 h2 => (hb.block q (by have := h.sz; omega)).trans (h.fr q h1 h2), h.bel.trans (hb.mono h.bel.size), Nat.le_trans h.sz hb.size, h.lo, h.gt, h.gp⟩
theorem dtree.S.init (hb : Below w.heap.size w Wb) {m : Nat} (hm : m ≤ 9223372036854775807) :
    dtree.S w Wa Wb Wb.heap.size (Wb.heap.size + 1) m m m (List.replicate m 0) (List.replicate m 0) ((Wb.alloc (.cells (madeCells #[.int .i64 0] m) 3)).alloc (.cells (madeCells #[.int .i64 0] m) 3)).drew ∧
    dtree.S w Wa Wb (Wb.heap.size + 1) Wb.heap.size m m m (List.replicate m 0) (List.replicate m 0) ((Wb.alloc (.cells (madeCells #[.int .i64 0] m) 3)).alloc (.cells (madeCells #[.int .i64 0] m) 3)).drew := by
  have h1 := R_made (k := .i64) Wb w.heap.size 3 m hb.size hm
  have h2 := R_made (k := .i64) (Wb.alloc (.cells (madeCells #[.int .i64 0] m) 3)) w.heap.size 3 m (by have := hb.size; simp; omega) hm
  have h3 := Kd.R_below h1 (below_alloc (Below.refl _ _) (.cells (madeCells #[.int .i64 0] m) 3))
  rw [show (Wb.alloc (.cells (madeCells #[.int .i64 0] m) 3)).heap.size = Wb.heap.size + 1 by simp] at h2
  have hB : Below Wb.heap.size Wb ((Wb.alloc (.cells (madeCells #[.int .i64 0] m) 3)).alloc (.cells (madeCells #[.int .i64 0] m) 3)).drew := (((Below.refl _ _).alloc (Nat.le_refl _) _).alloc (by simp) _).drew
  have hfr : ∀ q, Wa.heap.size ≤ q → q < Wb.heap.size → ((Wb.alloc (.cells (madeCells #[.int .i64 0] m) 3)).alloc (.cells (madeCells #[.int .i64 0] m) 3)).drew.heap[q]? = Wb.heap[q]? := fun q _ hq => hB.block q hq
  exact ⟨⟨Kd.R_drew h3, Kd.R_drew h2, by omega, hfr, hb.trans (hB.mono hb.size), hB.size, hb.size, Nat.le_refl _, by omega⟩, ⟨Kd.R_drew h2, Kd.R_drew h3, by omega, hfr, hb.trans (hB.mono hb.size), hB.size, hb.size, by omega, Nat.le_refl _⟩⟩
end
structure dtree.St (w Wa Wb : World) (gT gP gD cT cP cD n : Nat) (tree place : List Int) (done : List Bool) (W : World) : Prop where
  s : dtree.S w Wa Wb gT gP cT cP n tree place W
  d : Kd.R Kd.bool 4 W w.heap.size (fun k => k = gD) (.slice (some ⟨gD, 0, none⟩) n cD) done
  dt : gD ≠ gT
  dp : gD ≠ gP
  gd : Wb.heap.size ≤ gD
section
variable {w Wa Wb W : World} {gT gP gD cT cP cD n : Nat} {tree place : List Int} {done : List Bool}
theorem dtree.St.setT (h : dtree.St w Wa Wb gT gP gD cT cP cD n tree place done W) (i x : Int) : dtree.St w Wa Wb gT gP gD cT cP cD n (tree.set i.toNat x) place done (W.setCell ⟨gT, i.toNat, none⟩ (.int .i64 x)) :=
  ⟨h.s.setT i x, Kd.R_far h.d (p := ⟨gT, i.toNat, none⟩) (fun k hk => by rw [hk]; exact h.dt) _, h.dt, h.dp, h.gd⟩
theorem dtree.St.setD (h : dtree.St w Wa Wb gT gP gD cT cP cD n tree place done W) (i : Int) (x : Bool) : dtree.St w Wa Wb gT gP gD cT cP cD n tree place (done.set i.toNat x) (W.setCell ⟨gD, i.toNat, none⟩ (.bool x)) :=
  ⟨h.s.other h.dt h.dp h.gd _ _, (Kd.R_putg h.d i x).1, h.dt, h.dp, h.gd⟩
theorem dtree.St.below {W1 : World} (h : dtree.St w Wa Wb gT gP gD cT cP cD n tree place done W) (hb : Below W.heap.size W W1) : dtree.St w Wa Wb gT gP gD cT cP cD n tree place done W1 :=
  ⟨h.s.below hb, Kd.R_below h.d hb, h.dt, h.dp, h.gd⟩
end
set_option maxHeartbeats 8000000 in
set_option maxRecDepth 100000 in
theorem dom_Tree.calls (k : Nat) (a0_0 : ByteArray) (a0_1 : Int) (a0_2 : Int) (A0_3 : Option Addr) (c0_3 : Nat) (l0_3 : List Int) (A0_4 : Option Addr) (c0_4 : Nat) (l0_4 : List (List (S50))) (r : List Int) (w : World) (hr0_3 : Kd.C (Kd.int .i64) w A0_3 l0_3.length l0_3) (hc0_3 : l0_3.length ≤ c0_3) (hr0_4 : Kd.C (Kd.slice 50 k50) w A0_4 l0_4.length l0_4) (hc0_4 : l0_4.length ≤ c0_4) (h : dom_Tree.f k a0_0 a0_1 a0_2 l0_3 l0_4 = some r) :
    Calls Try.prog 34 #[.agg #[.string a0_0, .int .i64 a0_1, .int .i64 a0_2, .slice A0_3 l0_3.length c0_3, .slice A0_4 l0_4.length c0_4]] w fun e w' => ∃ v0_ : Value, e = .returned (v0_) ∧ Kd.R (Kd.int .i64) 3 w' w.heap.size (fun _ => True) v0_ r ∧ Below w.heap.size w w' := by
  have HR3 := Aside0.mk hr0_3
  have HC3 := Aside0.mk hc0_3
  have HR4 := Aside0.mk hr0_4
  have HC4 := Aside0.mk hc0_4
  obtain ⟨order, h1, h2⟩ := Option.bind_eq_some_iff.1 h
  obtain ⟨preds, h3, h4⟩ := Option.bind_eq_some_iff.1 h2
  by_cases hl : l0_4.length ≤ 35184372088832
  case neg => rw [if_neg hl] at h4; exact absurd h4 (by simp)
  rw [if_pos hl] at h4
  obtain ⟨place, h5, h6⟩ := Option.bind_eq_some_iff.1 h4
  have H1 := Aside0.mk h1
  have H3 := Aside0.mk h3
  have H5 := Aside0.mk h5
  have H6 := Aside0.mk h6
  clear hr0_3 hc0_3 hr0_4 hc0_4 h h1 h2 h3 h4 h5 h6
  have p0 : (0 : Int) ≤ (l0_4.length : Int) := by omega
  have hu30 := Try.underlying30
  have hmk := print_make (P := Try.prog) 23 3 .i64 8 Try.underlying23 info3 (by omega) l0_4.length (by omega)
  go_enter Try.func34, Try.ntmps34
  go_wp2_with (first
    | ((with_reducible refine gate_dst (N := 1) rfl ?_); refine box_event ?hg (N := 1) ?hd (cs := #[.string a0_0, .int .i64 a0_1, .int .i64 a0_2, .slice A0_3 l0_3.length c0_3, .slice A0_4 l0_4.length c0_4]) (t := 30) ?hr ?_; (case hd => rfl); (case hg => rfl); (case hr => first | (go_simp; done) | (go_simp; rfl)); intro g0 hg0 W1 hb1 hB1
       have e0 : W1.cell? ⟨g0, 0, none⟩ = some (.string a0_0) := (blk_cell hb1 0).trans rfl
       have e1 : W1.cell? ⟨g0, 1, none⟩ = some (.int .i64 a0_1) := (blk_cell hb1 1).trans rfl
       have e2 : W1.cell? ⟨g0, 2, none⟩ = some (.int .i64 a0_2) := (blk_cell hb1 2).trans rfl
       have e3 : W1.cell? ⟨g0, 3, none⟩ = some (.slice A0_3 l0_3.length c0_3) := (blk_cell hb1 3).trans rfl
       have e4 : W1.cell? ⟨g0, 4, none⟩ = some (.slice A0_4 l0_4.length c0_4) := (blk_cell hb1 4).trans rfl
       have HB1 := Aside0.mk hB1; have Hb1 := Aside0.mk hb1; clear hg0 hb1 hB1))
  go_step3
  go_wp2_with fail
  go_region_held3 (fun w' => w'.cell? ⟨g0, 0, none⟩ = some (.string a0_0) ∧ w'.cell? ⟨g0, 1, none⟩ = some (.int .i64 a0_1) ∧ w'.cell? ⟨g0, 2, none⟩ = some (.int .i64 a0_2) ∧ w'.cell? ⟨g0, 3, none⟩ = some (.slice A0_3 l0_3.length c0_3) ∧ w'.cell? ⟨g0, 4, none⟩ = some (.slice A0_4 l0_4.length c0_4)) (first | exact HK3.out | exact HK2.out | go_keep)
    (first
    | (go_at_call 54; refine (graph_Order.calls k a0_0 a0_1 a0_2 _ _ l0_3 _ _ l0_4 order _ (Kd.C_below HR3.out HB1.out.drew) HC3.out (Kd.C_below HR4.out HB1.out.drew) HC4.out H1.out).mono ?_; rintro e W2 ⟨v0, rfl, hR2, hB2⟩; obtain ⟨A2, c2, rfl, hlc2, hF2⟩ := Kd.freeze hR2; have HLc := Aside0.mk hlc2; clear hlc2
       have hb2 := blk_of_below (hB2.mono (B' := W1.heap.size) (Nat.le_refl _)) (blk_lt Hb1.out) (w := W1.drew) Hb1.out
       have HK2 := Aside0.mk (show W2.cell? ⟨g0, 0, none⟩ = some (.string a0_0) ∧ W2.cell? ⟨g0, 1, none⟩ = some (.int .i64 a0_1) ∧ W2.cell? ⟨g0, 2, none⟩ = some (.int .i64 a0_2) ∧ W2.cell? ⟨g0, 3, none⟩ = some (.slice A0_3 l0_3.length c0_3) ∧ W2.cell? ⟨g0, 4, none⟩ = some (.slice A0_4 l0_4.length c0_4) from ⟨(blk_cell hb2 0).trans rfl, (blk_cell hb2 1).trans rfl, (blk_cell hb2 2).trans rfl, (blk_cell hb2 3).trans rfl, (blk_cell hb2 4).trans rfl⟩)
       have HF2 := Aside0.mk hF2; have HB2 := Aside0.mk hB2; have Hb2 := Aside0.mk hb2; clear hF2 hB2 hR2 hb2)
    | (go_at_call 35; refine (graph_Preds.calls k a0_0 a0_1 a0_2 _ _ l0_3 _ _ l0_4 preds _ (Kd.C_below HR3.out (HB1.out.drew.trans (HB2.out.mono HB1.out.size))) HC3.out (Kd.C_below HR4.out (HB1.out.drew.trans (HB2.out.mono HB1.out.size))) HC4.out H3.out).mono ?_; rintro e W3 ⟨v0, rfl, hS3, hB3⟩; obtain ⟨A3, c3, hd3, rfl, _, hF3⟩ := Rows2.freeze (Kd.S_R hS3)
       have hb3 := blk_of_below hB3 (blk_lt Hb2.out) Hb2.out
       have HK3 := Aside0.mk (show W3.cell? ⟨g0, 0, none⟩ = some (.string a0_0) ∧ W3.cell? ⟨g0, 1, none⟩ = some (.int .i64 a0_1) ∧ W3.cell? ⟨g0, 2, none⟩ = some (.int .i64 a0_2) ∧ W3.cell? ⟨g0, 3, none⟩ = some (.slice A0_3 l0_3.length c0_3) ∧ W3.cell? ⟨g0, 4, none⟩ = some (.slice A0_4 l0_4.length c0_4) from ⟨(blk_cell hb3 0).trans rfl, (blk_cell hb3 1).trans rfl, (blk_cell hb3 2).trans rfl, (blk_cell hb3 3).trans rfl, (blk_cell hb3 4).trans rfl⟩)
       have HF3 := Aside0.mk hF3; have HB3 := Aside0.mk hB3; have Hb3 := Aside0.mk hb3; have HLp := Aside0.mk (Kd.S_reads' hS3).2.2.2.1; clear hF3 hB3 hS3 hb3))
  have HBW := Aside0.mk (HB1.out.drew.trans ((HB2.out.mono (B' := w.heap.size) HB1.out.size).trans (HB3.out.mono (B' := w.heap.size) (Nat.le_trans HB1.out.size HB2.out.size)) : Below w.heap.size W1.drew W3))
  have hS0 := Aside0.mk (dtree.S.init (Wa := W1) HBW.out (m := l0_4.length) (by omega))
  go_upto_region 2 with (fail)
  go_cut [5, 6] (fun v5 v6 wc => ∃ (gT gP : Nat), v5 = .slice (some ⟨gT, 0, none⟩) l0_4.length l0_4.length ∧ v6 = .slice (some ⟨gP, 0, none⟩) l0_4.length l0_4.length ∧ Aside0 (dtree.S w W1 W3 gT gP l0_4.length l0_4.length l0_4.length (List.replicate l0_4.length 0) (List.replicate l0_4.length 0) wc))
  case first =>
    go_wp2_with fail
    go_region_held3 (fun w' => w'.cell? ⟨g0, 4, none⟩ = some (.slice A0_4 l0_4.length c0_4)) (first | exact (blk_cell (blk_drew (blk_alloc (blk_alloc Hb3.out _) _)) 4).trans rfl | exact (blk_cell (blk_alloc (blk_alloc Hb3.out _) _) 4).trans rfl | exact (blk_cell (blk_drew (blk_alloc Hb3.out _)) 4).trans rfl | exact (blk_cell (blk_alloc Hb3.out _) 4).trans rfl | go_keep)
      (first
      | fail)
    · go_wp2
      go_meet
      case rel => first | exact ⟨_, _, rfl, rfl, ⟨hS0.out.1⟩⟩ | exact ⟨_, _, rfl, rfl, ⟨hS0.out.2⟩⟩
    · go_wp2
      go_meet
      case rel => first | exact ⟨_, _, rfl, rfl, ⟨hS0.out.1⟩⟩ | exact ⟨_, _, rfl, rfl, ⟨hS0.out.2⟩⟩
  case rest =>
    obtain ⟨gT, gP, rfl, rfl, HS⟩ := hcut
    have HL0 := Aside0.mk (HF2.out W2 (fun _ _ _ => rfl)).2.1
    have HF2' := Aside0.mk (show ∀ W : World, (∀ q, W1.heap.size ≤ q → q < W3.heap.size → W.heap[q]? = W3.heap[q]?) → (Kd.int .i64).C W A2 order.length order from fun W hW => HF2.out W (fun q h1 h2 => (hW q h1 (by have := HB3.out.size; omega)).trans (HB3.out.block q h2)))
    have HF3' := Aside0.mk (show ∀ W : World, (∀ q, W1.heap.size ≤ q → q < W3.heap.size → W.heap[q]? = W3.heap[q]?) → Rows2 .i64 W A3 hd3 preds from fun W hW => HF3.out W (fun q h1 h2 => hW q (by have := HB2.out.size; have h3 : W1.drew.heap.size = W1.heap.size := rfl; omega) h2))
    clear hS0 HF2 HF3 HBW HB2 HB3 Hb3 Hb2 HK2 HK3 hmk e0 e1 e2 e3 e4
    have p9 := HL0.out
    go_wp2
    go_loopw [31] (fun i wr => ∃ (j : Nat), i = .int .i64 j ∧ Aside0 (j ≤ l0_4.length) ∧ Aside0 (dtree.S w W1 W3 gT gP l0_4.length l0_4.length l0_4.length (List.replicate j (-1) ++ List.replicate (l0_4.length - j) 0) (List.replicate j (-1) ++ List.replicate (l0_4.length - j) 0) wr)) (fun i _ => l0_4.length - (intOf i).toNat)
    case atStart => exact ⟨0, rfl, ⟨Nat.zero_le _⟩, HS⟩
    case round =>
      obtain ⟨j, rfl, ⟨hj⟩, HS1⟩ := hrel
      clear HS
      have p0j : (0 : Int) ≤ (j : Int) := by omega
      by_cases hlt : j < l0_4.length
      · obtain ⟨x1, x2⟩ := Kd.R_celln (0 : Int) HS1.out.t (j : Int) p0j (by omega)
        have hT1 := HS1.out.setT (j : Int) (-1)
        obtain ⟨y1, y2⟩ := Kd.R_celln (0 : Int) hT1.p (j : Int) p0j (by omega)
        have hT2 := hT1.setP (j : Int) (-1)
        rw [Int.toNat_natCast] at x1 x2 y1 y2 hT2 hT1
        have hset := dtree.set_rep
        rw [hset j (l0_4.length - j) (by omega)] at hT2
        have HT2 := Aside0.mk hT2
        clear hT1 hT2 hset
        have hlt' : (j : Int) < (l0_4.length : Int) := by omega
        go_wp2_with (first
          | ((with_reducible refine gate_store (t := 3) (p := 38) rfl ?_); refine store_event (t := 3) (p := 38) (v := ?vo) (w1 := wr.setCell ⟨gT, j, none⟩ (.int .i64 (-1))) ?hg ?ho ?hn ?hr ?_; (case ho => rfl); (case hg => rfl); (case hn => rfl); (case hr => first | (go_simp; done) | (go_simp; rfl)); intro Wa hwa; subst hwa)
          | ((with_reducible refine gate_store (t := 3) (p := 39) rfl ?_); refine store_event (t := 3) (p := 39) (v := ?vo) (w1 := (wr.setCell ⟨gT, j, none⟩ (.int .i64 (-1))).setCell ⟨gP, j, none⟩ (.int .i64 (-1))) ?hg ?ho ?hn ?hr ?_; (case ho => rfl); (case hg => rfl); (case hn => rfl); (case hr => first | (go_simp; done) | (go_simp; rfl)); intro Wb hwb; have HWb := Aside0.mk hwb; clear hwb))
        go_roundw
        case rel => exact ⟨j + 1, by go_num, ⟨by omega⟩, ⟨by rw [HWb.out, show l0_4.length - (j + 1) = l0_4.length - j - 1 by omega]; exact HT2.out⟩⟩
        case measure => simp [intOf]; omega
      · have hj2 : j = l0_4.length := by omega
        subst hj2
        have hS2 := HS1.out
        rw [Nat.sub_self, List.replicate_zero, List.append_nil] at hS2
        have HS2 := Aside0.mk hS2
        clear hS2 HS1
        go_wp2
        obtain ⟨wo, rfl⟩ : ∃ wo : World, wo = wr := ⟨_, rfl⟩
        go_loopw [43] (fun i wr => ∃ (j : Nat) (pl : List Int), i = .int .i64 j ∧ Aside0 (j ≤ order.length) ∧ Aside0 (dtree.places (order.drop j) j pl = some place) ∧ Aside0 (dtree.S w W1 W3 gT gP l0_4.length l0_4.length l0_4.length (List.replicate l0_4.length (-1)) pl wr)) (fun i _ => order.length - (intOf i).toNat)
        case atStart => exact ⟨0, _, rfl, ⟨Nat.zero_le _⟩, H5, HS2⟩
        case round =>
          obtain ⟨j, pl, rfl, ⟨hj⟩, Hpl, HS3⟩ := hrel
          clear HS2
          have p0j : (0 : Int) ≤ (j : Int) := by omega
          by_cases hlt : j < order.length
          · have hf1 := Hpl.out
            rw [List.drop_eq_getElem_cons hlt, dtree.places] at hf1
            obtain ⟨b, hb⟩ : ∃ b, b = order[j] := ⟨_, rfl⟩
            rw [← hb] at hf1
            by_cases hc : 0 ≤ b ∧ b < (pl.length : Int)
            case neg => rw [if_neg hc] at hf1; exact absurd hf1 (by simp)
            rw [if_pos hc] at hf1
            obtain ⟨b0, b1⟩ := hc
            have hn := (Kd.R_reads' HS3.out.p).1
            obtain ⟨ad, hA, hx⟩ := Kd.at_int (HF2'.out wr HS3.out.fr) (j : Int) (by omega) (by omega)
            rw [show rd order (j : Int) = b from by rw [hb]; simp [rd, List.getD, hlt], Int.toNat_natCast] at hx
            subst hA
            obtain ⟨y1, y2⟩ := Kd.R_celln (0 : Int) HS3.out.p b b0 (by omega)
            have HP := Aside0.mk (HS3.out.setP b (j : Int))
            have Hrest := Aside0.mk hf1
            have b2 : b < (l0_4.length : Int) := by omega
            have q0 := eq_true b0
            have q2 := eq_true b2
            clear hf1 hb hn b1 Hpl
            go_wp2
            go_roundw
            case rel => exact ⟨j + 1, _, by go_num, ⟨by omega⟩, Hrest, HP⟩
            case measure => simp [intOf]; omega
          · have hj2 : j = order.length := by omega
            subst hj2
            have hf1 := Hpl.out
            rw [List.drop_length, dtree.places] at hf1
            obtain rfl := Option.some.inj hf1
            clear hf1 Hpl
            have h0l : (0 : Int) ≤ (l0_4.length : Int) := by omega
            go_wp2_with (first
              | ((with_reducible refine gate_dst (N := 55) rfl ?_); refine Kd.R_make Kd.bool (w0 := w) w.heap.size 4 rfl (N := 55) rfl 32 _ _ rfl (l0_4.length : Int) rfl rfl Try.underlying32 (.bool false) 1 info4 rfl (by decide) (by omega) false (ok := fun _ => True) (okp := fun _ => True) rfl (fun _ hk => hk) trivial (by omega) (by omega) HS3.out.bel HS3.out.bel.size ?_; intro v1 W5 hR5 hB5 hg5 hown5
                 obtain ⟨gD, cD, hv, hl5, hg5'⟩ := R_form' hR5 hown5; rw [List.length_replicate, Int.toNat_natCast] at hv; subst hv; rw [Int.toNat_natCast] at hR5
                 have hne1 : gD ≠ gT := by (obtain ⟨inner, ho⟩ := Kd.R_own HS3.out.t; have := own_lt ho gT rfl; omega)
                 have hne2 : gD ≠ gP := by (obtain ⟨inner, ho⟩ := Kd.R_own HS3.out.p; have := own_lt ho gP rfl; omega)
                 have hbw : Below wr.heap.size wr W5 := ⟨hg5.os, hg5.tape, hg5.output, hg5.size, fun q hq => hg5.block q hq (by simp)⟩
                 have HST := Aside0.mk (show dtree.St w W1 W3 gT gP gD l0_4.length l0_4.length cD l0_4.length (List.replicate l0_4.length (-1)) pl (List.replicate l0_4.length false) W5 from ⟨HS3.out.below hbw, R_ok_bool hR5 (fun q hq => by injection hq with hq; exact hq.symm), hne1, hne2, Nat.le_trans HS3.out.sz hg5'⟩)
                 clear hR5 hB5 hg5 hown5 hl5 hg5' hbw hne1 hne2))
            go_step3
            go_wp2
            obtain ⟨wo2, rfl⟩ : ∃ wo2 : World, wo2 = wr := ⟨_, rfl⟩
            clear HS3
            go_loopg [11] k (fun kq v11 w' => ∃ (tree : List Int) (done : List Bool), Aside0 (dtree.rounds k preds pl order kq (tree, done) = some r) ∧ Aside0 (kq ≤ k) ∧ Aside0 (dtree.St w W1 W3 gT gP gD l0_4.length l0_4.length cD l0_4.length tree pl done w'))
            case atStart => exact ⟨_, _, H6, ⟨Nat.le_refl _⟩, HST⟩
            case round =>
              obtain ⟨tree, done, HA, HK1, HS4⟩ := hrel
              clear HST
              cases gk with
              | zero => exact absurd HA.out (by simp [dtree.rounds])
              | succ k1 =>
                have hf1 := HA.out
                rw [dtree.rounds] at hf1
                clear HA
                by_cases ho : 0 < order.length
                · rw [if_pos ho] at hf1
                  have hnd := (Kd.R_reads' HS4.out.d).1
                  by_cases hd : 0 < done.length
                  case neg => rw [if_neg hd] at hf1; exact absurd hf1 (by simp)
                  rw [if_pos hd] at hf1
                  obtain ⟨st1, hsw, hnext⟩ := Option.bind_eq_some_iff.1 hf1
                  obtain ⟨tl, htl⟩ : ∃ tl, tl = order.tail := ⟨_, rfl⟩
                  rw [← htl] at hsw
                  have Hsw := Aside0.mk hsw
                  have Hnext := Aside0.mk hnext
                  obtain ⟨At, hcut, hct⟩ := print_cut_of (P := Try.prog) (Value.int .i64) (0 : Int) 23 3 .i64 Try.underlying23 (i := Try.t3) (by kernel_rfl) rfl A2 order.length c2 1 (by omega)
                  have htn : order.length - 1 = tl.length := by rw [htl]; simp
                  rw [htn] at hcut hct
                  rw [show ((1 : Nat) : Int) = 1 from rfl] at hcut
                  have HT := Aside0.mk (show ∀ W : World, (∀ q, W1.heap.size ≤ q → q < W3.heap.size → W.heap[q]? = W3.heap[q]?) → (Kd.int .i64).C W At tl.length tl from fun W hW => by
                    have := Kd.C_of_reads (h1 := fun _ => rfl) (hct W order HLc.out (Kd.reads_of_C (d := (0 : Int)) (HF2'.out W hW)))
                    rw [List.drop_one, ← htl] at this
                    exact this)
                  obtain ⟨x1, x2⟩ := Kd.R_celln false HS4.out.d 0 (by omega) (by omega)
                  replace x1 : wr.cell? ⟨gD, 0, none⟩ = some (.bool (rdOf false done 0)) := x1
                  replace x2 : wr.frozen? ⟨gD, 0, none⟩ = false := x2
                  have HD0 := Aside0.mk (show dtree.St w W1 W3 gT gP gD l0_4.length l0_4.length cD l0_4.length tree pl (done.set 0 true) (wr.setCell ⟨gD, 0, none⟩ (.bool true)) from HS4.out.setD 0 true)
                  have p8 : tl.length ≤ 9223372036854775807 := by omega
                  have n0 : 0 < l0_4.length := by omega
                  clear hf1 hsw hnext hct htl htn hnd hd
                  go_wp2
                  obtain ⟨wo3, rfl⟩ : ∃ wo3 : World, wo3 = wr := ⟨_, rfl⟩
                  clear HS4 x1 x2
                  go_loopw [11, 64] (fun v11 i wr => ∃ (j : Nat) (t2 : List Int) (d2 : List Bool) (ch : Bool), v11 = .bool ch ∧ i = .int .i64 j ∧ Aside0 (j ≤ tl.length) ∧ Aside0 (dtree.sweep k preds pl (tl.drop j) (t2, d2, ch) = some st1) ∧ Aside0 (dtree.St w W1 W3 gT gP gD l0_4.length l0_4.length cD l0_4.length t2 pl d2 wr)) (fun _ i _ => tl.length - (intOf i).toNat)
                  case atStart => exact ⟨0, _, _, false, rfl, rfl, ⟨Nat.zero_le _⟩, Hsw, HD0⟩
                  case round =>
                    obtain ⟨j, t2, d2, ch, rfl, rfl, ⟨hj⟩, Hs2, HS5⟩ := hrel
                    clear HD0 Hsw
                    have p0j : (0 : Int) ≤ (j : Int) := by omega
                    by_cases hlt : j < tl.length
                    · have hf1 := Hs2.out
                      rw [List.drop_eq_getElem_cons hlt, dtree.sweep] at hf1
                      obtain ⟨b, hb⟩ : ∃ b, b = tl[j] := ⟨_, rfl⟩
                      rw [← hb] at hf1
                      by_cases hc : 0 ≤ b ∧ b < (preds.length : Int) ∧ b < (t2.length : Int) ∧ b < (d2.length : Int)
                      case neg => rw [if_neg hc] at hf1; exact absurd hf1 (by simp)
                      rw [if_pos hc] at hf1
                      obtain ⟨b0, b1, b2, b3⟩ := hc
                      obtain ⟨nx, hpk, hrest⟩ := Option.bind_eq_some_iff.1 hf1
                      have hn := (Kd.R_reads' HS5.out.s.t).1
                      obtain ⟨ad, hA, hx⟩ := Kd.at_int (HT.out wr HS5.out.s.fr) (j : Int) (by omega) (by omega)
                      rw [show rd tl (j : Int) = b from by rw [hb]; simp [rd, List.getD, hlt], Int.toNat_natCast] at hx
                      subst hA
                      obtain ⟨l, hl⟩ : ∃ l, l = preds.getD b.toNat [] := ⟨_, rfl⟩
                      obtain ⟨B0, c5, hB⟩ : ∃ B0 c5, hd3 b.toNat = (B0, c5) := ⟨_, _, rfl⟩
                      obtain ⟨ad3, hA3, hy, _, _⟩ := HF3'.out wr HS5.out.s.fr b.toNat (by omega)
                      have HC := Aside0.mk (show ∀ W : World, (∀ q, W1.heap.size ≤ q → q < W3.heap.size → W.heap[q]? = W3.heap[q]?) → (Kd.int .i64).C W B0 l.length l from fun W hW => by
                        obtain ⟨_, _, _, _, q⟩ := HF3'.out W hW b.toNat (by omega)
                        rw [hB, ← hl] at q
                        exact q)
                      rw [hB, ← hl] at hy
                      rw [← hl] at hpk
                      subst hA3
                      have Hpk := Aside0.mk hpk
                      have Hrest := Aside0.mk hrest
                      have p7 : l.length ≤ 9223372036854775807 := (HC.out wr HS5.out.s.fr).2.1
                      have q0 := eq_true b0
                      have q1 := eq_true b1
                      have b4 : b < (l0_4.length : Int) := by omega
                      have q4 := eq_true b4
                      have Hb2 := Aside0.mk b2
                      have Hb3 := Aside0.mk b3
                      clear hf1 hb hl hB hpk hrest hn Hs2 b2 b3
                      obtain ⟨wo4, rfl⟩ : ∃ wo4 : World, wo4 = wr := ⟨_, rfl⟩
                      go_wp2
                      go_loopw [14, 73] (fun v14 i wr => ∃ (q : Nat) (n2 : Int), v14 = .int .i64 n2 ∧ i = .int .i64 q ∧ Aside0 (q ≤ l.length) ∧ Aside0 (dtree.pick k t2 pl d2 (l.drop q) n2 = some nx) ∧ Aside0 (dtree.St w W1 W3 gT gP gD l0_4.length l0_4.length cD l0_4.length t2 pl d2 wr)) (fun _ i _ => l.length - (intOf i).toNat)
                      case atStart => exact ⟨0, (-1), rfl, rfl, ⟨Nat.zero_le _⟩, Hpk, HS5⟩
                      case round =>
                        obtain ⟨q, n2, rfl, rfl, ⟨hq⟩, Hp2, HS6⟩ := hrel
                        clear HS5 Hpk hx hy
                        have p0q : (0 : Int) ≤ (q : Int) := by omega
                        by_cases hlt2 : q < l.length
                        · have hf1 := Hp2.out
                          rw [List.drop_eq_getElem_cons hlt2, dtree.pick] at hf1
                          obtain ⟨p, hp⟩ : ∃ p, p = l[q] := ⟨_, rfl⟩
                          rw [← hp] at hf1
                          by_cases hc : 0 ≤ p ∧ p < (pl.length : Int) ∧ p < (d2.length : Int)
                          case neg => rw [if_neg hc] at hf1; exact absurd hf1 (by simp)
                          rw [if_pos hc] at hf1
                          obtain ⟨u0, u1, u2⟩ := hc
                          have hnp := (Kd.R_reads' HS6.out.s.p).1
                          have hnd := (Kd.R_reads' HS6.out.d).1
                          obtain ⟨ad4, hA4, hx4⟩ := Kd.at_int (HC.out wr HS6.out.s.fr) (q : Int) (by omega) (by omega)
                          rw [show rd l (q : Int) = p from by rw [hp]; simp [rd, List.getD, hlt2], Int.toNat_natCast] at hx4
                          subst hA4
                          obtain ⟨z1, _⟩ := Kd.R_celln (0 : Int) HS6.out.s.p p u0 (by omega)
                          obtain ⟨z2, _⟩ := Kd.R_celln false HS6.out.d p u0 (by omega)
                          replace z1 : wr.cell? ⟨gP, p.toNat, none⟩ = some (.int .i64 (rd pl p)) := z1
                          have u3 : p < (l0_4.length : Int) := by omega
                          have v0 := eq_true u0
                          have v3 := eq_true u3
                          clear hp hnp hnd u1 u2 Hp2
                          have hstep : ∀ n3, dtree.pick k t2 pl d2 (l.drop (q + 1)) n3 = some nx → ∃ n4, dtree.pick k t2 pl d2 (l.drop (q + 1)) n4 = some nx := fun n3 h => ⟨n3, h⟩
                          clear hstep
                          by_cases w1 : rd pl p < 0
                          · rw [if_pos w1] at hf1
                            have Hf := Aside0.mk hf1
                            clear hf1
                            go_wp2
                            go_roundw
                            case rel => exact ⟨q + 1, n2, rfl, by go_num, ⟨by omega⟩, Hf, HS6⟩
                            case measure => simp [intOf]; omega
                          · rw [if_neg w1] at hf1
                            have w1b : decide (rd pl p < 0) = false := decide_eq_false w1
                            cases hdp : rdOf false d2 p with
                            | false =>
                              rw [if_pos (by exact hdp)] at hf1
                              rw [hdp] at z2
                              have Hf := Aside0.mk hf1
                              clear hf1 hdp
                              go_wp2
                              go_roundw
                              case rel => exact ⟨q + 1, n2, rfl, by go_num, ⟨by omega⟩, Hf, HS6⟩
                              case measure => simp [intOf]; omega
                            | true =>
                              rw [if_neg (by simp [hdp])] at hf1
                              rw [hdp] at z2
                              clear hdp
                              by_cases w3 : n2 < 0
                              · rw [if_pos w3] at hf1
                                have Hf := Aside0.mk hf1
                                clear hf1
                                go_wp2
                                go_roundw
                                case rel => exact ⟨q + 1, p, rfl, by go_num, ⟨by omega⟩, Hf, HS6⟩
                                case measure => simp [intOf]; omega
                              · rw [if_neg w3] at hf1
                                have w3b : decide (n2 < 0) = false := decide_eq_false w3
                                obtain ⟨n5, hme, hf2⟩ := Option.bind_eq_some_iff.1 hf1
                                have Hf := Aside0.mk hf2
                                have Hme := Aside0.mk hme
                                clear hf1 hf2 hme
                                go_wp2_with (first
                                  | (go_at_call 55
                                     have hrt := Kd.R_reads' HS6.out.s.t
                                     have hrp := Kd.R_reads' HS6.out.s.p
                                     have hcl := dom_meet.calls k (some ⟨gT, 0, none⟩) l0_4.length t2 (some ⟨gP, 0, none⟩) l0_4.length pl n2 p n5 wr hrt.2.2 (by omega) hrp.2.2 (by omega) Hme.out
                                     rw [← hrt.1, ← hrp.1] at hcl
                                     refine hcl.mono ?_; rintro e W8 ⟨rfl, hdr⟩
                                     have HS8 := Aside0.mk (HS6.out.below hdr.below); clear hrt hrp hcl hdr))
                                go_roundw
                                case rel => exact ⟨q + 1, n5, rfl, by go_num, ⟨by omega⟩, Hf, HS8⟩
                                case measure => simp [intOf]; omega
                        · have hq2 : q = l.length := by omega
                          subst hq2
                          have hf1 := Hp2.out
                          rw [List.drop_length, dtree.pick] at hf1
                          obtain rfl := Option.some.inj hf1
                          clear hf1 Hp2
                          have hnt := (Kd.R_reads' HS6.out.s.t).1
                          obtain ⟨z1, z3⟩ := Kd.R_celln (0 : Int) HS6.out.s.t b b0 (by omega)
                          replace z1 : wr.cell? ⟨gT, b.toNat, none⟩ = some (.int .i64 (rd t2 b)) := z1
                          have hT := HS6.out.setT b n2
                          obtain ⟨y1, y2⟩ := Kd.R_celln false hT.d b b0 (by have := (Kd.R_reads' HS6.out.d).1; have := Hb3.out; omega)
                          have HTD := Aside0.mk (hT.setD b true)
                          clear hT hnt
                          cases ch with
                          | true =>
                            have Hr := Hrest.out
                            rw [Bool.true_or] at Hr
                            have Hr2 := Aside0.mk Hr
                            clear Hr
                            go_wp2
                            go_roundw
                            case rel => exact ⟨j + 1, _, _, true, rfl, by go_num, ⟨by omega⟩, Hr2, HTD⟩
                            case measure => simp [intOf]; omega
                          | false =>
                            have Hr := Hrest.out
                            rw [Bool.false_or] at Hr
                            have Hr2 := Aside0.mk Hr
                            clear Hr
                            go_wp2
                            go_roundw
                            case rel => exact ⟨j + 1, _, _, _, rfl, by go_num, ⟨by omega⟩, Hr2, HTD⟩
                            case measure => simp [intOf]; omega
                    · have hj2 : j = tl.length := by omega
                      subst hj2
                      have hf1 := Hs2.out
                      rw [List.drop_length, dtree.sweep] at hf1
                      obtain rfl := Option.some.inj hf1
                      clear hf1 Hs2
                      have Hn2 := Hnext.out
                      cases ch with
                      | true =>
                        rw [if_pos rfl] at Hn2
                        have Hn3 := Aside0.mk Hn2
                        clear Hn2 Hnext
                        go_wp2
                        go_roundg k1
                        case measure => have := HK1.out; omega
                        case rel => exact ⟨_, _, Hn3, ⟨by have := HK1.out; omega⟩, HS5⟩
                      | false =>
                        rw [if_neg (by simp)] at Hn2
                        obtain rfl := Option.some.inj Hn2
                        clear Hn2 Hnext
                        go_wp2
                        (try rw [Exit.noGoto_ret])
                        go_ret
                        exact ⟨_, rfl, R_ok_int HS5.out.s.t (fun _ _ => trivial), HS5.out.s.bel⟩
                · rw [if_neg ho] at hf1
                  obtain rfl := Option.some.inj hf1
                  clear hf1
                  have ho1 : decide ((order.length : Int) > 0) = false := decide_eq_false (by omega)
                  have ho2 : (0 < order.length) = False := eq_false ho
                  go_wp2
                  (try rw [Exit.noGoto_ret])
                  go_ret
                  exact ⟨_, rfl, R_ok_int HS4.out.s.t (fun _ _ => trivial), HS4.out.s.bel⟩
end Go.Proofs.Ytjibojmbhbaneaa.PRm
