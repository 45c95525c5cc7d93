-- Written by a program of this session (wip/bprint.py), out of the translation, by way of the kit's print; hand-proved functions come from modules of their own.
import Derived.Test.YtjibojmbhbaneaaPRmx0
import Derived.Test.YtjibojmbhbaneaaPRmx9
namespace Go.Proofs.Ytjibojmbhbaneaa.PRm
open Go.RowKit Go.Proofs.YtjibojmbhbaneaaW.PrintWords Go.Proofs.YtjibojmbhbaneaaW.PrintLast Go.Proofs.YtjibojmbhbaneaaW.PrintMore
attribute [local go_sem] max2_int min2_int max_two min_two max_three min_three max_four min_four   -- for this text's walks alone
set_option linter.unusedVariables false
set_option linter.unusedSimpArgs false
/-! ### balustraderef17_Without: function 31 -/
mutual
def balustraderef17_Without.j0 : Nat → Int → List (List Int) → List Bool → Bool → Option (List Bool)
 | 0, _, _, _, _ => none
 | k + 1, x1, x5, x6, x7 => if x7 = true then (if 0 < (x6.length : Int) then (balustraderef17_Without.j1 k x1 x5 (x6.set (0 : Int).toNat true) x7) else (none)) else (balustraderef17_Without.j1 k x1 x5 x6 x7)
def balustraderef17_Without.j1 : Nat → Int → List (List Int) → List Bool → Bool → Option (List Bool)
 | 0, _, _, _, _ => none
 | k + 1, x1, x5, x6, x7 => balustraderef17_Without.l0 k x1 x5 x6 x7
def balustraderef17_Without.l0 : Nat → Int → List (List Int) → List Bool → Bool → Option (List Bool)
 | 0, _, _, _, _ => none
 | k + 1, x1, x5, x6, x7 => if x7 = true then (balustraderef17_Without.l1 k x1 x5 x6 false 0) else (some x6)
def balustraderef17_Without.l1 : Nat → Int → List (List Int) → List Bool → Bool → Int → Option (List Bool)
 | 0, _, _, _, _, _ => none
 | k + 1, x1, x5, x6, x7, x8 => if x8 < (x5.length : Int) then (balustraderef17_Without.l2 k x1 x5 x6 x7 x8 0) else (balustraderef17_Without.l0 k x1 x5 x6 x7)
def balustraderef17_Without.l2 : Nat → Int → List (List Int) → List Bool → Bool → Int → Int → Option (List Bool)
 | 0, _, _, _, _, _, _ => none
 | k + 1, x1, x5, x6, x7, x8, x9 => if 0 ≤ x8 then (if x8 < (x5.length : Int) then (if x9 < ((rd_L2 x5 x8).length : Int) then (if 0 ≤ x9 then (if x8 < (x6.length : Int) then (if rdOf false x6 x8 = true then (if (rd (rd_L2 x5 x8) x9) = x1 then (balustraderef17_Without.l2 k x1 x5 x6 x7 x8 (wrap64 (x9 + 1))) else (if 0 ≤ (rd (rd_L2 x5 x8) x9) then (if (rd (rd_L2 x5 x8) x9) < (x6.length : Int) then (if (rdOf false x6 (rd (rd_L2 x5 x8) x9) = true) then (balustraderef17_Without.l2 k x1 x5 x6 x7 x8 (wrap64 (x9 + 1))) else (balustraderef17_Without.l2 k x1 x5 (x6.set ((rd (rd_L2 x5 x8) x9) : Int).toNat true) true x8 (wrap64 (x9 + 1)))) else (none)) else (none))) else (balustraderef17_Without.l2 k x1 x5 x6 x7 x8 (wrap64 (x9 + 1)))) else (none)) else (none)) else (balustraderef17_Without.l1 k x1 x5 x6 x7 (wrap64 (x8 + 1)))) else (none)) else (none)
end
def balustraderef17_Without.f (k : Nat) (a0_0 : ByteArray) (a0_1 : Int) (a0_2 : Int) (l0_3 : List Int) (l0_4 : List (List (S50))) (a1 : Int) : Option (List Bool) := (balustraderef17_Succs.f k a0_0 a0_1 a0_2 l0_3 l0_4).bind fun t324 => (if 0 ≤ (t324.length : Int) then (if ((t324.length : Int) : Int).toNat ≤ 281474976710656 then ((some (List.replicate ((t324.length : Int) : Int).toNat false : List Bool)).bind fun y327 => (if (t324.length : Int) > 0 then (balustraderef17_Without.j0 k a1 t324 y327 (a1 != 0)) else (balustraderef17_Without.j0 k a1 t324 y327 false))) else (none)) else (none))
set_option maxHeartbeats 8000000 in
set_option maxRecDepth 100000 in
theorem balustraderef17_Without.calls (k : Nat) (a0_0 : ByteArray) (a0_1 : Int) (a0_2 : Int) (A0_3 : Option Addr) (c0_3 : Nat) (l0_3 : List Int) (A0_4 : Option Addr) (c0_4 : Nat) (l0_4 : List (List (S50))) (a1 : Int) (r : List Bool) (w : World) (hr0_3 : Kd.C (Kd.int .i64) w A0_3 l0_3.length l0_3) (hc0_3 : l0_3.length ≤ c0_3) (hr0_4 : Kd.C (Kd.slice 50 k50) w A0_4 l0_4.length l0_4) (hc0_4 : l0_4.length ≤ c0_4) (h : balustraderef17_Without.f k a0_0 a0_1 a0_2 l0_3 l0_4 a1 = some r) :
  Calls Try.prog 31 #[.agg #[.string a0_0, .int .i64 a0_1, .int .i64 a0_2, .slice A0_3 l0_3.length c0_3, .slice A0_4 l0_4.length c0_4], .int .i64 a1] w fun e w' => ∃ v0_ : Value, e = .returned (v0_) ∧ Kd.R Kd.bool 4 w' w.heap.size (fun _ => True) v0_ r ∧ Below w.heap.size w w' := by
 have hu30 := Try.underlying30
 have HR0_3 := Aside0.mk hr0_3
 have HC0_3 := Aside0.mk hc0_3
 clear hr0_3 hc0_3
 have HR0_4 := Aside0.mk hr0_4
 have HC0_4 := Aside0.mk hc0_4
 clear hr0_4 hc0_4
 have HB := Aside0.mk (Below.refl w.heap.size w)
 have H : ((balustraderef17_Succs.f k a0_0 a0_1 a0_2 l0_3 l0_4).bind fun t324 => (if 0 ≤ (t324.length : Int) then (if ((t324.length : Int) : Int).toNat ≤ 281474976710656 then ((some (List.replicate ((t324.length : Int) : Int).toNat false : List Bool)).bind fun y327 => (if (t324.length : Int) > 0 then (balustraderef17_Without.j0 k a1 t324 y327 (a1 != 0)) else (balustraderef17_Without.j0 k a1 t324 y327 false))) else (none)) else (none))) = some r := h
 clear h
 replace H := Option.bind_eq_some_iff.mp H
 obtain ⟨t324, A30, H⟩ := H
 replace H : (if 0 ≤ (t324.length : Int) then (if ((t324.length : Int) : Int).toNat ≤ 281474976710656 then ((some (List.replicate ((t324.length : Int) : Int).toNat false : List Bool)).bind fun y327 => (if (t324.length : Int) > 0 then (balustraderef17_Without.j0 k a1 t324 y327 (a1 != 0)) else (balustraderef17_Without.j0 k a1 t324 y327 false))) else (none)) else (none)) = some r := H
 have A3 := Aside0.mk A30
 clear A30
 by_cases c4 : 0 ≤ (t324.length : Int)
 ·rw [if_pos c4] at H
  have c4b0 := eq_true c4
  have c4b1 : decide (0 ≤ (t324.length : Int)) = true := decide_eq_true c4
  clear c4
  by_cases c5 : ((t324.length : Int) : Int).toNat ≤ 281474976710656
  ·rw [if_pos c5] at H
   have c5b0 := eq_true c5
   have c5b1 : decide (((t324.length : Int) : Int).toNat ≤ 281474976710656) = true := decide_eq_true c5
   clear c5
   obtain ⟨y327, hy327⟩ : ∃ y_ : List Bool, y_ = (List.replicate ((t324.length : Int) : Int).toNat false) := ⟨_, rfl⟩
   replace H : (if (t324.length : Int) > 0 then (balustraderef17_Without.j0 k a1 t324 y327 (a1 != 0)) else (balustraderef17_Without.j0 k a1 t324 y327 false)) = some r := by first | (rw [hy327]; with_reducible exact H) | (have H2_ := (Option.bind_some _ _).symm.trans H; rw [hy327]; with_reducible exact H2_) | (have H2_ := (Option.bind_some _ _).symm.trans H; with_reducible exact H2_) | with_reducible exact H | (rw [hy327]; exact H) | exact H
   have Ny327 := Aside0.mk hy327
   clear hy327
   have HC6 := Aside0.mk H
   clear H
   go_enter Try.func31, Try.ntmps31
   go_upto_region 3 with (first | ((with_reducible refine gate_dst (N := 2) rfl ?_); refine box_event ?hg (N := 2) ?hd (cs := #[.string a0_0, .int .i64 a0_1, .int .i64 a0_2, .slice A0_3 l0_3.length c0_3, .slice A0_4 l0_4.length c0_4]) (t := 30) ?hr ?_; (case hd => rfl); (case hg => rfl); (case hr => first | (go_simp; done) | (go_simp; rfl)); intro gb323 hg w7 hbox hb; have n0_ := Aside0.mk (below_step (by repeat (first | (with_reducible first | exact HB.out | apply below_alloc | apply pw_below_drewN | apply below_drew1) | exact HB.out)) hb); have n1_ := Aside0.mk (hbox); have n2_ := Aside0.mk ((by rw [hg]; exact (below_size (by repeat (first | (with_reducible first | exact HB.out | apply below_alloc | apply pw_below_drewN | apply below_drew1) | exact HB.out))) : w.heap.size ≤ gb323)); have n3_ := Aside0.mk ((by rw [hg]; exact (below_size (by repeat (first | (with_reducible first | exact HB.out | apply below_alloc | apply pw_below_drewN | apply below_drew1) | exact HB.out))) : w.heap.size ≤ gb323)); clear HB; have HB := n0_; have BK323 := n1_; have GW323 := n2_; have GE323 := n3_; clear n0_ n1_ n2_ n3_; clear hb hbox hg; have hcz8_0 : w7.cell? ⟨gb323, 0, none⟩ = some (.string a0_0) := (blk_cell BK323.out 0).trans rfl; have hcz8_1 : w7.cell? ⟨gb323, 1, none⟩ = some (.int .i64 a0_1) := (blk_cell BK323.out 1).trans rfl; have hcz8_2 : w7.cell? ⟨gb323, 2, none⟩ = some (.int .i64 a0_2) := (blk_cell BK323.out 2).trans rfl; have hcz8_3 : w7.cell? ⟨gb323, 3, none⟩ = some (.slice A0_3 l0_3.length c0_3) := (blk_cell BK323.out 3).trans rfl; have hcz8_4 : w7.cell? ⟨gb323, 4, none⟩ = some (.slice A0_4 l0_4.length c0_4) := (blk_cell BK323.out 4).trans rfl; have hfz8_0 := blk_frozen BK323.out 0; have hfz8_1 := blk_frozen BK323.out 1; have hfz8_2 := blk_frozen BK323.out 2; have hfz8_3 := blk_frozen BK323.out 3; have hfz8_4 := blk_frozen BK323.out 4) | ((with_reducible refine gate_callee (f := 32) rfl ?_); refine goesL_ (some 12) rfl rfl Try.func32 (by kernel_rfl) rfl #[.agg #[.string a0_0, .int .i64 a0_1, .int .i64 a0_2, .slice A0_3 l0_3.length c0_3, .slice A0_4 l0_4.length c0_4]] rfl (by (try simp only [List.map_toArray, List.map_cons, List.map_nil]); first | done | rfl | (simp only [List.length_drop, List.length_take]; rfl)) ?_; (with_reducible refine (balustraderef17_Succs.calls k a0_0 a0_1 a0_2 _ _ l0_3 _ _ l0_4 t324 _ ?side1 ?side2 ?side3 ?side4 A3.out).mono ?_); (case side1 => repeat (first | exact (Kd.C_below HR0_3.out HB.out) | (with_reducible refine Kd.C_alloc ?_ _) | (with_reducible refine Kd.C_drewN ?_ _) | (with_reducible refine Kd.C_drew ?_))); (case side2 => exact HC0_3.out); (case side3 => repeat (first | exact (Kd.C_below HR0_4.out HB.out) | (with_reducible refine Kd.C_alloc ?_ _) | (with_reducible refine Kd.C_drewN ?_ _) | (with_reducible refine Kd.C_drew ?_))); (case side4 => exact HC0_4.out); rintro e w9 ⟨v325, rfl, ho0, hb⟩; refine ⟨_, rfl, ?_⟩; have n0_ := Aside0.mk (Kd.S_lower ho0 (below_size (by repeat (first | (with_reducible first | exact HB.out | apply below_alloc | apply pw_below_drewN | apply below_drew1 | refine below_set ?_ GE323.out) | exact HB.out)))); have n1_ := Aside0.mk (blk_below (g := gb323) (o := .cells #[.string a0_0, .int .i64 a0_1, .int .i64 a0_2, .slice A0_3 l0_3.length c0_3, .slice A0_4 l0_4.length c0_4] 30 (0, 0)) (by (with_reducible repeat (first | refine blk_drewN ?_ _ | refine blk_drew ?_ | refine blk_alloc ?_ _)); exact BK323.out) hb); have n2_ := Aside0.mk (below_step (by repeat (first | (with_reducible first | exact HB.out | apply below_alloc | apply pw_below_drewN | apply below_drew1 | refine below_set ?_ GE323.out) | exact HB.out)) hb); clear BK323; clear HB; have HO326 := n0_; have BK323 := n1_; have HB := n2_; clear n0_ n1_ n2_; (try clear hb); (try clear hb2); (try clear hk); (try clear hi); (try clear ho0); obtain ⟨Ao10, co10, eo10⟩ := Kd.S_slice HO326.out; subst eo10) | ((with_reducible refine gate_dst (N := 15) rfl ?_); refine Kd.R_make Kd.bool _ 4 rfl (N := 15) rfl 32 _ _ rfl (t324.length : Int) rfl rfl Try.underlying32 (.bool false) 1 info4 rfl (by decide) (by omega) false (ok := fun _ => True) (okp := fun _ => True) rfl (fun _ hk => hk) trivial (of_decide_eq_true (by first | (with_reducible assumption) | assumption)) (Nat.le_trans (Nat.mul_le_mul_right _ (of_decide_eq_true (by first | (with_reducible assumption) | assumption) : (t324.length : Int).toNat ≤ 281474976710656)) (by omega)) (Below.refl _ _) (Nat.le_refl _) ?_; intro v328 w11 ho12 hb hg_ hnew_; clear hg_ hnew_; (first | rw [← Ny327.out] at ho12 | (simp only [Int.reduceToNat] at ho12; rw [← Ny327.out] at ho12)); have n0_ := Aside0.mk (Kd.S_below (by (with_reducible repeat (first | apply Kd.S_alloc | apply Kd.S_drewN | apply Kd.S_drew)); exact HO326.out) hb); have n1_ := Aside0.mk (Kd.R_lower ho12 (below_size (by repeat (first | (with_reducible first | exact HB.out | apply below_alloc | apply pw_below_drewN | apply below_drew1 | refine below_set ?_ GE323.out) | exact HB.out)))); have n2_ := Aside0.mk (blk_below (g := gb323) (o := .cells #[.string a0_0, .int .i64 a0_1, .int .i64 a0_2, .slice A0_3 l0_3.length c0_3, .slice A0_4 l0_4.length c0_4] 30 (0, 0)) (by (with_reducible repeat (first | refine blk_drewN ?_ _ | refine blk_drew ?_ | refine blk_alloc ?_ _)); exact BK323.out) hb); have n3_ := Aside0.mk (below_step (by repeat (first | (with_reducible first | exact HB.out | apply below_alloc | apply pw_below_drewN | apply below_drew1 | refine below_set ?_ GE323.out) | exact HB.out)) hb); clear HO326; clear BK323; clear HB; have HO326 := n0_; have HO329 := n1_; have BK323 := n2_; have HB := n3_; clear n0_ n1_ n2_ n3_; clear hb ho12))
   (try simp only [Act.put, List.setIfInBounds_toArray, List.set_cons_zero, List.set_cons_succ])
   go_cut [7] (fun v7 wc => ∃ (kq : Nat) (x7_5 : Bool), v7 = .bool x7_5 ∧ Aside0 (balustraderef17_Without.j0 kq a1 t324 y327 x7_5 = some r) ∧ Aside0 (kq ≤ k) ∧ Aside0 (Kd.S (Kd.slice 3 (Kd.int .i64)) 23 wc w.heap.size (fun _ => True) (.slice Ao10 t324.length co10) t324) ∧ Aside0 (Kd.R Kd.bool 4 wc w.heap.size (fun _ => True) v328 y327) ∧ Aside0 (wc.heap[gb323]? = some (.cells #[.string a0_0, .int .i64 a0_1, .int .i64 a0_2, (.slice A0_3 l0_3.length c0_3), (.slice A0_4 l0_4.length c0_4)] 30 (0, 0))) ∧ Aside0 (Below w.heap.size w wc))
   case first =>
    have H := HC6.out
    clear HC6
    by_cases c13 : (t324.length : Int) > 0
    ·rw [if_pos c13] at H
     have c13b0 : decide (0 < (t324.length : Int)) = true := decide_eq_true c13
     have c13b1 : decide (0 < t324.length) = true := decide_eq_true (by omega)
     clear c13
     (first | rw [c13b0] | (simp only [i64_w, i32_w]; rw [c13b0]) | skip)
     have H' := Aside0.mk H
     clear H
     go_wp2
     go_meet
     case rel => exact ⟨_, ((a1 != 0)), (by first | rfl | (simp; done) | (simp [*]; done)), H', ⟨by first | omega | exact Nat.le_refl _⟩, ⟨by (with_reducible repeat (first | apply Kd.S_alloc | apply Kd.S_drewN | apply Kd.S_drew)); exact HO326.out⟩, ⟨by (with_reducible repeat (first | apply Kd.R_alloc | apply Kd.R_drewN | apply Kd.R_drew)); exact HO329.out⟩, ⟨by (with_reducible repeat (first | refine blk_drewN ?_ _ | refine blk_drew ?_ | refine blk_alloc ?_ _)); exact BK323.out⟩, ⟨by repeat (first | (with_reducible first | exact HB.out | apply below_alloc | apply pw_below_drewN | apply below_drew1 | refine below_set ?_ GE323.out) | exact HB.out)⟩⟩
    ·rw [if_neg c13] at H
     have c13b0 : decide (0 < (t324.length : Int)) = false := decide_eq_false c13
     have c13b1 : decide (0 < t324.length) = false := decide_eq_false (by omega)
     clear c13
     (first | rw [c13b0] | (simp only [i64_w, i32_w]; rw [c13b0]) | skip)
     have H' := Aside0.mk H
     clear H
     go_wp2
     go_meet
     case rel => exact ⟨_, (false), (by first | rfl | (simp; done) | (simp [*]; done)), H', ⟨by first | omega | exact Nat.le_refl _⟩, ⟨by (with_reducible repeat (first | apply Kd.S_alloc | apply Kd.S_drewN | apply Kd.S_drew)); exact HO326.out⟩, ⟨by (with_reducible repeat (first | apply Kd.R_alloc | apply Kd.R_drewN | apply Kd.R_drew)); exact HO329.out⟩, ⟨by (with_reducible repeat (first | refine blk_drewN ?_ _ | refine blk_drew ?_ | refine blk_alloc ?_ _)); exact BK323.out⟩, ⟨by repeat (first | (with_reducible first | exact HB.out | apply below_alloc | apply pw_below_drewN | apply below_drew1 | refine below_set ?_ GE323.out) | exact HB.out)⟩⟩
   case rest =>
    clear HC6
    try clear c1
    try clear p2
    try clear c3
    try clear c4
    try clear c4b0
    try clear c4b1
    try clear c5
    try clear c5b0
    try clear c5b1
    try clear c13
    try clear c13b0
    try clear c13b1
    try clear hcz8_0
    try clear hcz8_1
    try clear hcz8_2
    try clear hcz8_3
    try clear hcz8_4
    try clear hfz8_0
    try clear hfz8_1
    try clear hfz8_2
    try clear hfz8_3
    try clear hfz8_4
    obtain ⟨kq, x7_5, rfl, HA, HJ5, HO_5, HO_6, BK323, HB⟩ := hcut
    cases kq with
    | zero => exact absurd HA.out (by simp [balustraderef17_Without.j0])
    | succ kj5 =>
     have H := HA.out
     clear HA
     simp only [balustraderef17_Without.j0] at H
     have HC14 := Aside0.mk H
     clear H
     go_upto_if 23 with (fail)
     go_cut [] (fun wc => ∃ (kq : Nat) (x6_13 : List Bool), Aside0 (balustraderef17_Without.j1 kq a1 t324 x6_13 x7_5 = some r) ∧ Aside0 (kq ≤ kj5) ∧ Aside0 (Kd.S (Kd.slice 3 (Kd.int .i64)) 23 wc w.heap.size (fun _ => True) (.slice Ao10 t324.length co10) t324) ∧ Aside0 (Kd.R Kd.bool 4 wc w.heap.size (fun _ => True) v328 x6_13) ∧ Aside0 (wc.heap[gb323]? = some (.cells #[.string a0_0, .int .i64 a0_1, .int .i64 a0_2, (.slice A0_3 l0_3.length c0_3), (.slice A0_4 l0_4.length c0_4)] 30 (0, 0))) ∧ Aside0 (Below w.heap.size w wc))
     case first =>
      have H := HC14.out
      clear HC14
      by_cases c15 : x7_5 = true
      ·subst c15
       have H1 : (if 0 < (y327.length : Int) then (balustraderef17_Without.j1 kj5 a1 t324 (y327.set (0 : Int).toNat true) true) else (none)) = some r := by rw [if_pos rfl] at H; exact H
       clear H
       have H := H1
       clear H1
       by_cases c16 : 0 < (y327.length : Int)
       ·rw [if_pos c16] at H
        have c16b0 : decide (0 < (y327.length : Int)) = true := decide_eq_true c16
        have c16b1 : decide (0 < y327.length) = true := decide_eq_true (by omega)
        clear c16
        (first | rw [c16b0] | (simp only [i64_w, i32_w]; rw [c16b0]) | skip)
        obtain ⟨y330, hy330⟩ : ∃ y_ : List Bool, y_ = (y327.set (0 : Int).toNat true) := ⟨_, rfl⟩
        replace H : (balustraderef17_Without.j1 kj5 a1 t324 y330 true) = some r := by first | (rw [hy330]; with_reducible exact H) | (have H2_ := (Option.bind_some _ _).symm.trans H; rw [hy330]; with_reducible exact H2_) | (have H2_ := (Option.bind_some _ _).symm.trans H; with_reducible exact H2_) | with_reducible exact H | (rw [hy330]; exact H) | exact H
        have Ny330 := Aside0.mk hy330
        clear hy330
        have H' := Aside0.mk H
        clear H
        have p17 : 0 ≤ (0 : Int) := (by omega)
        have q17 : (0 : Int) < ((y327.length : Int) : Int) := of_decide_eq_true (by first | (with_reducible assumption) | assumption)
        have qi17 : (0 < y327.length) = True := eq_true (by omega)
        obtain ⟨go17, co17, eo17, gb17, gl17, cl17, HG17⟩ := Kd.R_form HO_6.out (by omega)
        (first | cases eo17 | (injection eo17 with ea_ en_ ec_; (first | subst ea_ | (injection ea_ with ea_; subst ea_)); subst ec_; clear en_))
        have GB17 := Aside0.mk gb17
        have GG17 := Aside0.mk HG17
        clear gb17 gl17 HG17
        obtain ⟨hx17_0, hf17_0⟩ := Kd.R_celln false HO_6.out (0 : Int) p17 q17
        (try rw [show ((0 : Int)).toNat = 0 from rfl] at hx17_0)
        (try simp only [Nat.reduceMul, Nat.zero_mul, Nat.zero_add, Nat.reduceAdd] at hx17_0)
        (try rw [show ((0 : Int)).toNat = 0 from rfl] at hf17_0)
        (try simp only [Nat.reduceMul, Nat.zero_mul, Nat.zero_add, Nat.reduceAdd] at hf17_0)
        replace p17 := eq_true p17
        replace q17 := eq_true q17
        have HP18 := Kd.R_putg HO_6.out (0 : Int) true
        go_wp2_with (first | ((with_reducible refine gate_store (t := 4) (p := 25) rfl ?_); refine store_event (t := 4) (p := 25) (v := ?vo_w19) (w1 := (wc.setCell ⟨go17, (0 : Int).toNat, none⟩ (.bool true))) ?hg ?ho ?hn ?hr ?_; (case ho => rfl); (case hg => rfl); (case hn => rfl); (case hr => first | (go_simp; done) | (go_simp; rfl)); intro w19 hw; have hg : wc.grownBy w19 (some go17) := (by rw [hw]; exact HP18.2); have hp_ : Kd.R Kd.bool 4 w19 w.heap.size (fun _ => True) (.slice (some ⟨go17, 0, none⟩) y327.length co17) y330 := (by rw [hw, Ny330.out]; exact HP18.1); clear HP18; have n0_ := Aside0.mk (Kd.S_over' (v := (.slice (some ⟨go17, 0, none⟩) y327.length co17)) (by (with_reducible repeat (first | apply Kd.S_alloc | apply Kd.S_drewN | apply Kd.S_drew)); exact HO_5.out) (Kd.R_typed HO_6.out) (by decide) hg); have n1_ := Aside0.mk (hp_); have n2_ := Aside0.mk (blk_grown (g := gb323) (o := .cells #[.string a0_0, .int .i64 a0_1, .int .i64 a0_2, .slice A0_3 l0_3.length c0_3, .slice A0_4 l0_4.length c0_4] 30 (0, 0)) (by (with_reducible repeat (first | refine blk_drewN ?_ _ | refine blk_drew ?_ | refine blk_alloc ?_ _)); exact BK323.out) hg (Kd.R_ne HO_6.out BK323.out (by decide))); have n3_ := Aside0.mk ((by rw [hw]; exact below_set (HB.out) GB17.out : Below w.heap.size w w19)); clear HO_5; clear HO_6; clear BK323; clear HB; have HO_5 := n0_; have HO_6 := n1_; have BK323 := n2_; have HB := n3_; clear n0_ n1_ n2_ n3_; clear hg hw hp_))
        go_meet
        case rel => exact ⟨_, (y330), H', ⟨by have := HJ5.out; first | omega | exact Nat.le_refl _⟩, ⟨by (with_reducible repeat (first | apply Kd.S_alloc | apply Kd.S_drewN | apply Kd.S_drew)); exact HO_5.out⟩, ⟨by (with_reducible repeat (first | apply Kd.R_alloc | apply Kd.R_drewN | apply Kd.R_drew)); exact HO_6.out⟩, ⟨by (with_reducible repeat (first | refine blk_drewN ?_ _ | refine blk_drew ?_ | refine blk_alloc ?_ _)); exact BK323.out⟩, ⟨by repeat (first | (with_reducible first | exact HB.out | apply below_alloc | apply pw_below_drewN | apply below_drew1 | refine below_set ?_ GE323.out) | exact HB.out)⟩⟩
       ·rw [if_neg c16] at H
        exact absurd H (by simp)
      ·replace c15 := Bool.eq_false_iff.mpr c15
       subst c15
       have H1 : (balustraderef17_Without.j1 kj5 a1 t324 y327 false) = some r := by rw [if_neg (show ¬ (false = true) by decide)] at H; exact H
       clear H
       have H := H1
       clear H1
       have H' := Aside0.mk H
       clear H
       go_wp2
       go_meet
       case rel => exact ⟨_, (y327), H', ⟨by have := HJ5.out; first | omega | exact Nat.le_refl _⟩, ⟨by (with_reducible repeat (first | apply Kd.S_alloc | apply Kd.S_drewN | apply Kd.S_drew)); exact HO_5.out⟩, ⟨by (with_reducible repeat (first | apply Kd.R_alloc | apply Kd.R_drewN | apply Kd.R_drew)); exact HO_6.out⟩, ⟨by (with_reducible repeat (first | refine blk_drewN ?_ _ | refine blk_drew ?_ | refine blk_alloc ?_ _)); exact BK323.out⟩, ⟨by repeat (first | (with_reducible first | exact HB.out | apply below_alloc | apply pw_below_drewN | apply below_drew1 | refine below_set ?_ GE323.out) | exact HB.out)⟩⟩
     case rest =>
      clear HC14
      try clear c1
      try clear p1
      try clear q1
      try clear hx1
      try clear qi1
      try clear p2
      try clear c3
      try clear c4
      try clear c4b0
      try clear c4b1
      try clear c5
      try clear c5b0
      try clear c5b1
      try clear c13
      try clear c13b0
      try clear c13b1
      try clear c15
      try clear c16
      try clear c16b0
      try clear c16b1
      try clear p17
      try clear q17
      try clear hx17
      try clear qi17
      try clear hf17
      try clear hcz8_0
      try clear hcz8_1
      try clear hcz8_2
      try clear hcz8_3
      try clear hcz8_4
      try clear hfz8_0
      try clear hfz8_1
      try clear hfz8_2
      try clear hfz8_3
      try clear hfz8_4
      try clear hx17_0
      try clear p17
      try clear p2
      try clear q17
      obtain ⟨kq, x6_13, HA, HJ13, HO_5, HO_6, BK323, HB⟩ := hcut
      cases kq with
      | zero => exact absurd HA.out (by simp [balustraderef17_Without.j1])
      | succ kj13 =>
       have H := HA.out
       clear HA
       simp only [balustraderef17_Without.j1] at H
       have H' := Aside0.mk H
       clear H
       go_wp2
       go_loopg [7] kj13 (fun kq v7 w' => ∃ (x6_3 : List Bool) (x7_3 : Bool), v7 = .bool x7_3 ∧ Aside0 (balustraderef17_Without.l0 kq a1 t324 x6_3 x7_3 = some r) ∧ Aside0 (kq ≤ kj13) ∧ Aside0 (Kd.S (Kd.slice 3 (Kd.int .i64)) 23 w' w.heap.size (fun _ => True) (.slice Ao10 t324.length co10) t324) ∧ Aside0 (Kd.R Kd.bool 4 w' w.heap.size (fun _ => True) v328 x6_3) ∧ Aside0 (w'.heap[gb323]? = some (.cells #[.string a0_0, .int .i64 a0_1, .int .i64 a0_2, (.slice A0_3 l0_3.length c0_3), (.slice A0_4 l0_4.length c0_4)] 30 (0, 0))) ∧ Aside0 (Below w.heap.size w w'))
       case atStart => exact ⟨(x6_13), (x7_5), (by first | rfl | (simp; done) | (simp [*]; done)), H', ⟨Nat.le_refl _⟩, ⟨by (with_reducible repeat (first | apply Kd.S_alloc | apply Kd.S_drewN | apply Kd.S_drew)); exact HO_5.out⟩, ⟨by (with_reducible repeat (first | apply Kd.R_alloc | apply Kd.R_drewN | apply Kd.R_drew)); exact HO_6.out⟩, ⟨by (with_reducible repeat (first | refine blk_drewN ?_ _ | refine blk_drew ?_ | refine blk_alloc ?_ _)); exact BK323.out⟩, ⟨by repeat (first | (with_reducible first | exact HB.out | apply below_alloc | apply pw_below_drewN | apply below_drew1 | refine below_set ?_ GE323.out) | exact HB.out)⟩⟩
       case round =>
        clear H'
        try clear c1
        try clear p1
        try clear q1
        try clear hx1
        try clear qi1
        try clear p2
        try clear c3
        try clear c4
        try clear c4b0
        try clear c4b1
        try clear c5
        try clear c5b0
        try clear c5b1
        try clear c13
        try clear c13b0
        try clear c13b1
        try clear c15
        try clear c16
        try clear c16b0
        try clear c16b1
        try clear p17
        try clear q17
        try clear hx17
        try clear qi17
        try clear hf17
        try clear hcz8_0
        try clear hcz8_1
        try clear hcz8_2
        try clear hcz8_3
        try clear hcz8_4
        try clear hfz8_0
        try clear hfz8_1
        try clear hfz8_2
        try clear hfz8_3
        try clear hfz8_4
        try clear hx17_0
        try clear p1
        try clear p17
        try clear p2
        try clear q1
        try clear q17
        obtain ⟨x6_3, x7_3, rfl, HA, HK3, HO_5, HO_6, BK323, HB⟩ := hrel
        cases gk with
        | zero => exact absurd HA.out (by simp [balustraderef17_Without.l0])
        | succ k3 =>
         have H := HA.out
         clear HA
         simp only [balustraderef17_Without.l0] at H
         by_cases c20 : x7_3 = true
         ·subst c20
          have H1 : (balustraderef17_Without.l1 k3 a1 t324 x6_3 false 0) = some r := by rw [if_pos rfl] at H; exact H
          clear H
          have H := H1
          clear H1
          have H' := Aside0.mk H
          clear H
          go_wp2
          go_loopg [7, 8] k3 (fun kq v7 v8 w' => ∃ (x6_4 : List Bool) (x7_4 : Bool) (x8_4 : Int), v7 = .bool x7_4 ∧ v8 = .int .i64 x8_4 ∧ Aside0 (balustraderef17_Without.l1 kq a1 t324 x6_4 x7_4 x8_4 = some r) ∧ Aside0 (kq ≤ k3) ∧ Aside0 (Kd.S (Kd.slice 3 (Kd.int .i64)) 23 w' w.heap.size (fun _ => True) (.slice Ao10 t324.length co10) t324) ∧ Aside0 (Kd.R Kd.bool 4 w' w.heap.size (fun _ => True) v328 x6_4) ∧ Aside0 (w'.heap[gb323]? = some (.cells #[.string a0_0, .int .i64 a0_1, .int .i64 a0_2, (.slice A0_3 l0_3.length c0_3), (.slice A0_4 l0_4.length c0_4)] 30 (0, 0))) ∧ Aside0 (Below w.heap.size w w'))
          case atStart => exact ⟨(x6_3), (false), (0), (by first | rfl | (simp; done) | (simp [*]; done)), (by first | rfl | (simp; done) | (simp [*]; done)), H', ⟨Nat.le_refl _⟩, ⟨by (with_reducible repeat (first | apply Kd.S_alloc | apply Kd.S_drewN | apply Kd.S_drew)); exact HO_5.out⟩, ⟨by (with_reducible repeat (first | apply Kd.R_alloc | apply Kd.R_drewN | apply Kd.R_drew)); exact HO_6.out⟩, ⟨by (with_reducible repeat (first | refine blk_drewN ?_ _ | refine blk_drew ?_ | refine blk_alloc ?_ _)); exact BK323.out⟩, ⟨by repeat (first | (with_reducible first | exact HB.out | apply below_alloc | apply pw_below_drewN | apply below_drew1 | refine below_set ?_ GE323.out) | exact HB.out)⟩⟩
          case round =>
           clear H'
           try clear c1
           try clear p1
           try clear q1
           try clear hx1
           try clear qi1
           try clear c2
           try clear p2
           try clear c3
           try clear c4
           try clear c4b0
           try clear c4b1
           try clear c5
           try clear c5b0
           try clear c5b1
           try clear c13
           try clear c13b0
           try clear c13b1
           try clear c15
           try clear c16
           try clear c16b0
           try clear c16b1
           try clear p17
           try clear q17
           try clear hx17
           try clear qi17
           try clear hf17
           try clear c20
           try clear hcz8_0
           try clear hcz8_1
           try clear hcz8_2
           try clear hcz8_3
           try clear hcz8_4
           try clear hfz8_0
           try clear hfz8_1
           try clear hfz8_2
           try clear hfz8_3
           try clear hfz8_4
           try clear hx17_0
           try clear p1
           try clear p17
           try clear p2
           try clear q1
           try clear q17
           obtain ⟨x6_4, x7_4, x8_4, rfl, rfl, HA, HK4, HO_5, HO_6, BK323, HB⟩ := hrel
           cases gk with
           | zero => exact absurd HA.out (by simp [balustraderef17_Without.l1])
           | succ k4 =>
            have H := HA.out
            clear HA
            simp only [balustraderef17_Without.l1] at H
            by_cases c21 : x8_4 < (t324.length : Int)
            ·rw [if_pos c21] at H
             have c21b0 : decide (x8_4 < (t324.length : Int)) = true := decide_eq_true c21
             clear c21
             have H' := Aside0.mk H
             clear H
             go_wp2
             go_loopg [7, 9] k4 (fun kq v7 v9 w' => ∃ (x6_5 : List Bool) (x7_5 : Bool) (x9_5 : Int), v7 = .bool x7_5 ∧ v9 = .int .i64 x9_5 ∧ Aside0 (balustraderef17_Without.l2 kq a1 t324 x6_5 x7_5 x8_4 x9_5 = some r) ∧ Aside0 (kq ≤ k4) ∧ Aside0 (Kd.S (Kd.slice 3 (Kd.int .i64)) 23 w' w.heap.size (fun _ => True) (.slice Ao10 t324.length co10) t324) ∧ Aside0 (Kd.R Kd.bool 4 w' w.heap.size (fun _ => True) v328 x6_5) ∧ Aside0 (w'.heap[gb323]? = some (.cells #[.string a0_0, .int .i64 a0_1, .int .i64 a0_2, (.slice A0_3 l0_3.length c0_3), (.slice A0_4 l0_4.length c0_4)] 30 (0, 0))) ∧ Aside0 (Below w.heap.size w w'))
             case atStart => exact ⟨(x6_4), (x7_4), (0), (by first | rfl | (simp; done) | (simp [*]; done)), (by first | rfl | (simp; done) | (simp [*]; done)), H', ⟨Nat.le_refl _⟩, ⟨by (with_reducible repeat (first | apply Kd.S_alloc | apply Kd.S_drewN | apply Kd.S_drew)); exact HO_5.out⟩, ⟨by (with_reducible repeat (first | apply Kd.R_alloc | apply Kd.R_drewN | apply Kd.R_drew)); exact HO_6.out⟩, ⟨by (with_reducible repeat (first | refine blk_drewN ?_ _ | refine blk_drew ?_ | refine blk_alloc ?_ _)); exact BK323.out⟩, ⟨by repeat (first | (with_reducible first | exact HB.out | apply below_alloc | apply pw_below_drewN | apply below_drew1 | refine below_set ?_ GE323.out) | exact HB.out)⟩⟩
             case round =>
              clear H'
              try clear c1
              try clear p1
              try clear q1
              try clear hx1
              try clear qi1
              try clear c2
              try clear p2
              try clear c3
              try clear c4
              try clear c4b0
              try clear c4b1
              try clear c5
              try clear c5b0
              try clear c5b1
              try clear c13
              try clear c13b0
              try clear c13b1
              try clear c15
              try clear c16
              try clear c16b0
              try clear c16b1
              try clear p17
              try clear q17
              try clear hx17
              try clear qi17
              try clear hf17
              try clear c20
              try clear c21
              try clear c21b0
              try clear hcz8_0
              try clear hcz8_1
              try clear hcz8_2
              try clear hcz8_3
              try clear hcz8_4
              try clear hfz8_0
              try clear hfz8_1
              try clear hfz8_2
              try clear hfz8_3
              try clear hfz8_4
              try clear hx17_0
              try clear p1
              try clear p17
              try clear p2
              try clear q1
              try clear q17
              obtain ⟨x6_5, x7_5, x9_5, rfl, rfl, HA, HK5, HO_5, HO_6, BK323, HB⟩ := hrel
              cases gk with
              | zero => exact absurd HA.out (by simp [balustraderef17_Without.l2])
              | succ k5 =>
               have H := HA.out
               clear HA
               simp only [balustraderef17_Without.l2] at H
               by_cases c22 : 0 ≤ x8_4
               ·rw [if_pos c22] at H
                have c22b0 : decide (0 ≤ x8_4) = true := decide_eq_true c22
                clear c22
                by_cases c23 : x8_4 < (t324.length : Int)
                ·rw [if_pos c23] at H
                 have c23b0 : decide (x8_4 < (t324.length : Int)) = true := decide_eq_true c23
                 clear c23
                 by_cases c24 : x9_5 < ((rd_L2 t324 x8_4).length : Int)
                 ·rw [if_pos c24] at H
                  have c24b0 : decide (x9_5 < ((rd_L2 t324 x8_4).length : Int)) = true := decide_eq_true c24
                  clear c24
                  by_cases c25 : 0 ≤ x9_5
                  ·rw [if_pos c25] at H
                   have c25b0 : decide (0 ≤ x9_5) = true := decide_eq_true c25
                   clear c25
                   by_cases c26 : x8_4 < (x6_5.length : Int)
                   ·rw [if_pos c26] at H
                    have c26b0 : decide (x8_4 < (x6_5.length : Int)) = true := decide_eq_true c26
                    clear c26
                    obtain ⟨bq27, hbq27⟩ : ∃ b_ : Bool, b_ = (rdOf false x6_5 x8_4) := ⟨_, rfl⟩
                    replace H : (if bq27 = true then (if (rd (rd_L2 t324 x8_4) x9_5) = a1 then (balustraderef17_Without.l2 k5 a1 t324 x6_5 x7_5 x8_4 (wrap64 (x9_5 + 1))) else (if 0 ≤ (rd (rd_L2 t324 x8_4) x9_5) then (if (rd (rd_L2 t324 x8_4) x9_5) < (x6_5.length : Int) then (if (rdOf false x6_5 (rd (rd_L2 t324 x8_4) x9_5) = true) then (balustraderef17_Without.l2 k5 a1 t324 x6_5 x7_5 x8_4 (wrap64 (x9_5 + 1))) else (balustraderef17_Without.l2 k5 a1 t324 (x6_5.set ((rd (rd_L2 t324 x8_4) x9_5) : Int).toNat true) true x8_4 (wrap64 (x9_5 + 1)))) else (none)) else (none))) else (balustraderef17_Without.l2 k5 a1 t324 x6_5 x7_5 x8_4 (wrap64 (x9_5 + 1)))) = some r := by rw [← hbq27] at H; exact H
                    have Nbq27 := Aside0.mk hbq27
                    clear hbq27
                    by_cases c28 : bq27 = true
                    ·subst c28
                     have H1 : (if (rd (rd_L2 t324 x8_4) x9_5) = a1 then (balustraderef17_Without.l2 k5 a1 t324 x6_5 x7_5 x8_4 (wrap64 (x9_5 + 1))) else (if 0 ≤ (rd (rd_L2 t324 x8_4) x9_5) then (if (rd (rd_L2 t324 x8_4) x9_5) < (x6_5.length : Int) then (if (rdOf false x6_5 (rd (rd_L2 t324 x8_4) x9_5) = true) then (balustraderef17_Without.l2 k5 a1 t324 x6_5 x7_5 x8_4 (wrap64 (x9_5 + 1))) else (balustraderef17_Without.l2 k5 a1 t324 (x6_5.set ((rd (rd_L2 t324 x8_4) x9_5) : Int).toNat true) true x8_4 (wrap64 (x9_5 + 1)))) else (none)) else (none))) = some r := by rw [if_pos rfl] at H; exact H
                     clear H
                     have H := H1
                     clear H1
                     by_cases c29 : (rd (rd_L2 t324 x8_4) x9_5) = a1
                     ·rw [if_pos c29] at H
                      have c29b0 : ((rd (rd_L2 t324 x8_4) x9_5) == a1) = true := beq_iff_eq.mpr c29
                      have c29b1 : ((rd (rd_L2 t324 x8_4) x9_5) != a1) = false := bne_eq_false_iff_eq.mpr c29
                      clear c29
                      have H' := Aside0.mk H
                      clear H
                      have p331 : 0 ≤ (x8_4 : Int) := of_decide_eq_true (by first | (with_reducible assumption) | assumption)
                      have q331 : x8_4 < (t324.length : Int) := of_decide_eq_true (by first | (with_reducible assumption) | assumption)
                      obtain ⟨ad331, A331_0, c331_0, e331, hx331_0, hl331_0, hi331_0⟩ := at_L2 (Kd.S_reads' HO_5.out).2.2 x8_4 p331 q331
                      cases e331
                      obtain ⟨ce331, hce331, hMe331, hcc331⟩ := Kd.S_get HO_5.out [] x8_4 p331 (by first | exact q331 | exact of_decide_eq_true (by first | (with_reducible assumption) | assumption) | (have e_ := (Kd.S_reads' HO_5.out).1; omega))
                      obtain ⟨ve331_0, rfl, ge331_0⟩ := hMe331
                      have hv331_0 := hcc331 0 _ rfl
                      rw [Nat.add_zero, show ((Kd.slice 3 (Kd.int .i64))).sz = 1 from rfl, Nat.mul_one] at hv331_0
                      replace hv331_0 := Option.some.inj (hv331_0.symm.trans hx331_0)
                      rw [hv331_0] at ge331_0
                      have HL331_0 := Aside0.mk (show Kd.R (Kd.int .i64) 3 _ _ _ _ (rd_L2 t324 x8_4) from ge331_0)
                      clear hv331_0 ge331_0
                      clear hcc331 hce331
                      have HR331_0 := Aside0.mk hi331_0
                      have HC331_0 := Aside0.mk hl331_0
                      clear hi331_0 hl331_0
                      replace p331 := eq_true p331
                      replace q331 := eq_true q331
                      have p332 : 0 ≤ (x8_4 : Int) := of_decide_eq_true (by first | (with_reducible assumption) | assumption)
                      have q332 : x8_4 < (t324.length : Int) := of_decide_eq_true (by first | (with_reducible assumption) | assumption)
                      obtain ⟨ad332, A332_0, c332_0, e332, hx332_0, hl332_0, hi332_0⟩ := at_L2 (Kd.S_reads' HO_5.out).2.2 x8_4 p332 q332
                      obtain rfl : ad331 = ad332 := (by injection e332)
                      obtain ⟨ce332, hce332, hMe332, hcc332⟩ := Kd.S_get HO_5.out [] x8_4 p332 (by first | exact q332 | exact of_decide_eq_true (by first | (with_reducible assumption) | assumption) | (have e_ := (Kd.S_reads' HO_5.out).1; omega))
                      obtain ⟨ve332_0, rfl, ge332_0⟩ := hMe332
                      have hv332_0 := hcc332 0 _ rfl
                      rw [Nat.add_zero, show ((Kd.slice 3 (Kd.int .i64))).sz = 1 from rfl, Nat.mul_one] at hv332_0
                      replace hv332_0 := Option.some.inj (hv332_0.symm.trans hx332_0)
                      rw [hv332_0] at ge332_0
                      have HL332_0 := Aside0.mk (show Kd.R (Kd.int .i64) 3 _ _ _ _ (rd_L2 t324 x8_4) from ge332_0)
                      clear hv332_0 ge332_0
                      clear hcc332 hce332
                      have HR332_0 := Aside0.mk hi332_0
                      have HC332_0 := Aside0.mk hl332_0
                      clear hi332_0 hl332_0
                      replace p332 := eq_true p332
                      replace q332 := eq_true q332
                      have ea_ := Option.some.inj (hx331_0.symm.trans hx332_0)
                      injection ea_ with ea_ en_ ec_
                      subst ea_
                      subst ec_
                      clear en_
                      have p333 : 0 ≤ (x9_5 : Int) := of_decide_eq_true (by first | (with_reducible assumption) | assumption)
                      have q333 : x9_5 < ((rd_L2 t324 x8_4).length : Int) := of_decide_eq_true (by first | (with_reducible assumption) | assumption)
                      obtain ⟨ad333, e333, hx333_0⟩ := Kd.at_int (by repeat (first | (with_reducible exact HR332_0.out) | (with_reducible refine Kd.C_alloc ?_ _) | (with_reducible refine Kd.C_drewN ?_ _) | (with_reducible refine Kd.C_drew ?_) | exact HR332_0.out)) x9_5 p333 q333
                      cases e333
                      replace p333 := eq_true p333
                      replace q333 := eq_true q333
                      obtain ⟨Ao30, co30, eo30⟩ := Kd.R_slice HO_6.out
                      subst eo30
                      have p334 : 0 ≤ (x8_4 : Int) := of_decide_eq_true (by first | (with_reducible assumption) | assumption)
                      have q334 : x8_4 < (x6_5.length : Int) := of_decide_eq_true (by first | (with_reducible assumption) | assumption)
                      obtain ⟨ad334, e334, hx334_0⟩ := Kd.at_bool (Kd.R_reads' HO_6.out).2.2 x8_4 p334 q334
                      (try rw [← Nbq27.out] at hx334_0)
                      cases e334
                      replace p334 := eq_true p334
                      replace q334 := eq_true q334
                      go_wp2
                      go_roundg k5
                      case measure => have := HJ5.out; have := HJ13.out; have := HK3.out; have := HK4.out; have := HK5.out; omega
                      case rel => exact ⟨(x6_5), (x7_5), (wrap64 (x9_5 + 1)), (by first | rfl | (simp; done) | (simp [*]; done)), (by first | rfl | (simp; done) | (simp [*]; done)), H', ⟨by have := HJ5.out; have := HJ13.out; have := HK3.out; have := HK4.out; have := HK5.out; omega⟩, ⟨by (with_reducible repeat (first | apply Kd.S_alloc | apply Kd.S_drewN | apply Kd.S_drew)); exact HO_5.out⟩, ⟨by (with_reducible repeat (first | apply Kd.R_alloc | apply Kd.R_drewN | apply Kd.R_drew)); exact HO_6.out⟩, ⟨by (with_reducible repeat (first | refine blk_drewN ?_ _ | refine blk_drew ?_ | refine blk_alloc ?_ _)); exact BK323.out⟩, ⟨by repeat (first | (with_reducible first | exact HB.out | apply below_alloc | apply pw_below_drewN | apply below_drew1 | refine below_set ?_ GE323.out) | exact HB.out)⟩⟩
                     ·rw [if_neg c29] at H
                      have c29b0 : ((rd (rd_L2 t324 x8_4) x9_5) == a1) = false := beq_eq_false_iff_ne.mpr c29
                      have c29b1 : ((rd (rd_L2 t324 x8_4) x9_5) != a1) = true := bne_iff_ne.mpr c29
                      by_cases c31 : 0 ≤ (rd (rd_L2 t324 x8_4) x9_5)
                      ·rw [if_pos c31] at H
                       have c31b0 : decide (0 ≤ (rd (rd_L2 t324 x8_4) x9_5)) = true := decide_eq_true c31
                       clear c31
                       by_cases c32 : (rd (rd_L2 t324 x8_4) x9_5) < (x6_5.length : Int)
                       ·rw [if_pos c32] at H
                        have c32b0 : decide ((rd (rd_L2 t324 x8_4) x9_5) < (x6_5.length : Int)) = true := decide_eq_true c32
                        clear c32
                        obtain ⟨bq33, hbq33⟩ : ∃ b_ : Bool, b_ = (rdOf false x6_5 (rd (rd_L2 t324 x8_4) x9_5)) := ⟨_, rfl⟩
                        replace H : (if (bq33 = true) then (balustraderef17_Without.l2 k5 a1 t324 x6_5 x7_5 x8_4 (wrap64 (x9_5 + 1))) else (balustraderef17_Without.l2 k5 a1 t324 (x6_5.set ((rd (rd_L2 t324 x8_4) x9_5) : Int).toNat true) true x8_4 (wrap64 (x9_5 + 1)))) = some r := by rw [← hbq33] at H; exact H
                        have Nbq33 := Aside0.mk hbq33
                        clear hbq33
                        by_cases c34 : (bq33 = true)
                        ·subst c34
                         have H1 : (balustraderef17_Without.l2 k5 a1 t324 x6_5 x7_5 x8_4 (wrap64 (x9_5 + 1))) = some r := by rw [if_pos rfl] at H; exact H
                         clear H
                         have H := H1
                         clear H1
                         have H' := Aside0.mk H
                         clear H
                         have p331 : 0 ≤ (x8_4 : Int) := of_decide_eq_true (by first | (with_reducible assumption) | assumption)
                         have q331 : x8_4 < (t324.length : Int) := of_decide_eq_true (by first | (with_reducible assumption) | assumption)
                         obtain ⟨ad331, A331_0, c331_0, e331, hx331_0, hl331_0, hi331_0⟩ := at_L2 (Kd.S_reads' HO_5.out).2.2 x8_4 p331 q331
                         cases e331
                         obtain ⟨ce331, hce331, hMe331, hcc331⟩ := Kd.S_get HO_5.out [] x8_4 p331 (by first | exact q331 | exact of_decide_eq_true (by first | (with_reducible assumption) | assumption) | (have e_ := (Kd.S_reads' HO_5.out).1; omega))
                         obtain ⟨ve331_0, rfl, ge331_0⟩ := hMe331
                         have hv331_0 := hcc331 0 _ rfl
                         rw [Nat.add_zero, show ((Kd.slice 3 (Kd.int .i64))).sz = 1 from rfl, Nat.mul_one] at hv331_0
                         replace hv331_0 := Option.some.inj (hv331_0.symm.trans hx331_0)
                         rw [hv331_0] at ge331_0
                         have HL331_0 := Aside0.mk (show Kd.R (Kd.int .i64) 3 _ _ _ _ (rd_L2 t324 x8_4) from ge331_0)
                         clear hv331_0 ge331_0
                         clear hcc331 hce331
                         have HR331_0 := Aside0.mk hi331_0
                         have HC331_0 := Aside0.mk hl331_0
                         clear hi331_0 hl331_0
                         replace p331 := eq_true p331
                         replace q331 := eq_true q331
                         have p332 : 0 ≤ (x8_4 : Int) := of_decide_eq_true (by first | (with_reducible assumption) | assumption)
                         have q332 : x8_4 < (t324.length : Int) := of_decide_eq_true (by first | (with_reducible assumption) | assumption)
                         obtain ⟨ad332, A332_0, c332_0, e332, hx332_0, hl332_0, hi332_0⟩ := at_L2 (Kd.S_reads' HO_5.out).2.2 x8_4 p332 q332
                         obtain rfl : ad331 = ad332 := (by injection e332)
                         obtain ⟨ce332, hce332, hMe332, hcc332⟩ := Kd.S_get HO_5.out [] x8_4 p332 (by first | exact q332 | exact of_decide_eq_true (by first | (with_reducible assumption) | assumption) | (have e_ := (Kd.S_reads' HO_5.out).1; omega))
                         obtain ⟨ve332_0, rfl, ge332_0⟩ := hMe332
                         have hv332_0 := hcc332 0 _ rfl
                         rw [Nat.add_zero, show ((Kd.slice 3 (Kd.int .i64))).sz = 1 from rfl, Nat.mul_one] at hv332_0
                         replace hv332_0 := Option.some.inj (hv332_0.symm.trans hx332_0)
                         rw [hv332_0] at ge332_0
                         have HL332_0 := Aside0.mk (show Kd.R (Kd.int .i64) 3 _ _ _ _ (rd_L2 t324 x8_4) from ge332_0)
                         clear hv332_0 ge332_0
                         clear hcc332 hce332
                         have HR332_0 := Aside0.mk hi332_0
                         have HC332_0 := Aside0.mk hl332_0
                         clear hi332_0 hl332_0
                         replace p332 := eq_true p332
                         replace q332 := eq_true q332
                         have ea_ := Option.some.inj (hx331_0.symm.trans hx332_0)
                         injection ea_ with ea_ en_ ec_
                         subst ea_
                         subst ec_
                         clear en_
                         have p333 : 0 ≤ (x9_5 : Int) := of_decide_eq_true (by first | (with_reducible assumption) | assumption)
                         have q333 : x9_5 < ((rd_L2 t324 x8_4).length : Int) := of_decide_eq_true (by first | (with_reducible assumption) | assumption)
                         obtain ⟨ad333, e333, hx333_0⟩ := Kd.at_int (by repeat (first | (with_reducible exact HR332_0.out) | (with_reducible refine Kd.C_alloc ?_ _) | (with_reducible refine Kd.C_drewN ?_ _) | (with_reducible refine Kd.C_drew ?_) | exact HR332_0.out)) x9_5 p333 q333
                         cases e333
                         replace p333 := eq_true p333
                         replace q333 := eq_true q333
                         obtain ⟨Ao35, co35, eo35⟩ := Kd.R_slice HO_6.out
                         subst eo35
                         have p334 : 0 ≤ (x8_4 : Int) := of_decide_eq_true (by first | (with_reducible assumption) | assumption)
                         have q334 : x8_4 < (x6_5.length : Int) := of_decide_eq_true (by first | (with_reducible assumption) | assumption)
                         obtain ⟨ad334, e334, hx334_0⟩ := Kd.at_bool (Kd.R_reads' HO_6.out).2.2 x8_4 p334 q334
                         (try rw [← Nbq27.out] at hx334_0)
                         (try rw [← Nbq33.out] at hx334_0)
                         cases e334
                         replace p334 := eq_true p334
                         replace q334 := eq_true q334
                         have p335 : 0 ≤ ((rd (rd_L2 t324 x8_4) x9_5) : Int) := of_decide_eq_true (by first | (with_reducible assumption) | assumption)
                         have q335 : (rd (rd_L2 t324 x8_4) x9_5) < (x6_5.length : Int) := of_decide_eq_true (by first | (with_reducible assumption) | assumption)
                         obtain ⟨ad335, e335, hx335_0⟩ := Kd.at_bool (Kd.R_reads' HO_6.out).2.2 (rd (rd_L2 t324 x8_4) x9_5) p335 q335
                         (try rw [← Nbq27.out] at hx335_0)
                         (try rw [← Nbq33.out] at hx335_0)
                         obtain rfl : ad334 = ad335 := (by injection e335)
                         replace p335 := eq_true p335
                         replace q335 := eq_true q335
                         go_wp2
                         go_roundg k5
                         case measure => have := HJ5.out; have := HJ13.out; have := HK3.out; have := HK4.out; have := HK5.out; omega
                         case rel => exact ⟨(x6_5), (x7_5), (wrap64 (x9_5 + 1)), (by first | rfl | (simp; done) | (simp [*]; done)), (by first | rfl | (simp; done) | (simp [*]; done)), H', ⟨by have := HJ5.out; have := HJ13.out; have := HK3.out; have := HK4.out; have := HK5.out; omega⟩, ⟨by (with_reducible repeat (first | apply Kd.S_alloc | apply Kd.S_drewN | apply Kd.S_drew)); exact HO_5.out⟩, ⟨by (with_reducible repeat (first | apply Kd.R_alloc | apply Kd.R_drewN | apply Kd.R_drew)); exact HO_6.out⟩, ⟨by (with_reducible repeat (first | refine blk_drewN ?_ _ | refine blk_drew ?_ | refine blk_alloc ?_ _)); exact BK323.out⟩, ⟨by repeat (first | (with_reducible first | exact HB.out | apply below_alloc | apply pw_below_drewN | apply below_drew1 | refine below_set ?_ GE323.out) | exact HB.out)⟩⟩
                        ·replace c34 := Bool.eq_false_iff.mpr c34
                         subst c34
                         have H1 : (balustraderef17_Without.l2 k5 a1 t324 (x6_5.set ((rd (rd_L2 t324 x8_4) x9_5) : Int).toNat true) true x8_4 (wrap64 (x9_5 + 1))) = some r := by rw [if_neg (show ¬ (false = true) by decide)] at H; exact H
                         clear H
                         have H := H1
                         clear H1
                         obtain ⟨y336, hy336⟩ : ∃ y_ : List Bool, y_ = (x6_5.set ((rd (rd_L2 t324 x8_4) x9_5) : Int).toNat true) := ⟨_, rfl⟩
                         replace H : (balustraderef17_Without.l2 k5 a1 t324 y336 true x8_4 (wrap64 (x9_5 + 1))) = some r := by first | (rw [hy336]; with_reducible exact H) | (have H2_ := (Option.bind_some _ _).symm.trans H; rw [hy336]; with_reducible exact H2_) | (have H2_ := (Option.bind_some _ _).symm.trans H; with_reducible exact H2_) | with_reducible exact H | (rw [hy336]; exact H) | exact H
                         have Ny336 := Aside0.mk hy336
                         clear hy336
                         have H' := Aside0.mk H
                         clear H
                         have p331 : 0 ≤ (x8_4 : Int) := of_decide_eq_true (by first | (with_reducible assumption) | assumption)
                         have q331 : x8_4 < (t324.length : Int) := of_decide_eq_true (by first | (with_reducible assumption) | assumption)
                         obtain ⟨ad331, A331_0, c331_0, e331, hx331_0, hl331_0, hi331_0⟩ := at_L2 (Kd.S_reads' HO_5.out).2.2 x8_4 p331 q331
                         cases e331
                         obtain ⟨ce331, hce331, hMe331, hcc331⟩ := Kd.S_get HO_5.out [] x8_4 p331 (by first | exact q331 | exact of_decide_eq_true (by first | (with_reducible assumption) | assumption) | (have e_ := (Kd.S_reads' HO_5.out).1; omega))
                         obtain ⟨ve331_0, rfl, ge331_0⟩ := hMe331
                         have hv331_0 := hcc331 0 _ rfl
                         rw [Nat.add_zero, show ((Kd.slice 3 (Kd.int .i64))).sz = 1 from rfl, Nat.mul_one] at hv331_0
                         replace hv331_0 := Option.some.inj (hv331_0.symm.trans hx331_0)
                         rw [hv331_0] at ge331_0
                         have HL331_0 := Aside0.mk (show Kd.R (Kd.int .i64) 3 _ _ _ _ (rd_L2 t324 x8_4) from ge331_0)
                         clear hv331_0 ge331_0
                         clear hcc331 hce331
                         have HR331_0 := Aside0.mk hi331_0
                         have HC331_0 := Aside0.mk hl331_0
                         clear hi331_0 hl331_0
                         replace p331 := eq_true p331
                         replace q331 := eq_true q331
                         have p332 : 0 ≤ (x8_4 : Int) := of_decide_eq_true (by first | (with_reducible assumption) | assumption)
                         have q332 : x8_4 < (t324.length : Int) := of_decide_eq_true (by first | (with_reducible assumption) | assumption)
                         obtain ⟨ad332, A332_0, c332_0, e332, hx332_0, hl332_0, hi332_0⟩ := at_L2 (Kd.S_reads' HO_5.out).2.2 x8_4 p332 q332
                         obtain rfl : ad331 = ad332 := (by injection e332)
                         obtain ⟨ce332, hce332, hMe332, hcc332⟩ := Kd.S_get HO_5.out [] x8_4 p332 (by first | exact q332 | exact of_decide_eq_true (by first | (with_reducible assumption) | assumption) | (have e_ := (Kd.S_reads' HO_5.out).1; omega))
                         obtain ⟨ve332_0, rfl, ge332_0⟩ := hMe332
                         have hv332_0 := hcc332 0 _ rfl
                         rw [Nat.add_zero, show ((Kd.slice 3 (Kd.int .i64))).sz = 1 from rfl, Nat.mul_one] at hv332_0
                         replace hv332_0 := Option.some.inj (hv332_0.symm.trans hx332_0)
                         rw [hv332_0] at ge332_0
                         have HL332_0 := Aside0.mk (show Kd.R (Kd.int .i64) 3 _ _ _ _ (rd_L2 t324 x8_4) from ge332_0)
                         clear hv332_0 ge332_0
                         clear hcc332 hce332
                         have HR332_0 := Aside0.mk hi332_0
                         have HC332_0 := Aside0.mk hl332_0
                         clear hi332_0 hl332_0
                         replace p332 := eq_true p332
                         replace q332 := eq_true q332
                         have ea_ := Option.some.inj (hx331_0.symm.trans hx332_0)
                         injection ea_ with ea_ en_ ec_
                         subst ea_
                         subst ec_
                         clear en_
                         have p333 : 0 ≤ (x9_5 : Int) := of_decide_eq_true (by first | (with_reducible assumption) | assumption)
                         have q333 : x9_5 < ((rd_L2 t324 x8_4).length : Int) := of_decide_eq_true (by first | (with_reducible assumption) | assumption)
                         obtain ⟨ad333, e333, hx333_0⟩ := Kd.at_int (by repeat (first | (with_reducible exact HR332_0.out) | (with_reducible refine Kd.C_alloc ?_ _) | (with_reducible refine Kd.C_drewN ?_ _) | (with_reducible refine Kd.C_drew ?_) | exact HR332_0.out)) x9_5 p333 q333
                         cases e333
                         replace p333 := eq_true p333
                         replace q333 := eq_true q333
                         obtain ⟨Ao37, co37, eo37⟩ := Kd.R_slice HO_6.out
                         subst eo37
                         have p334 : 0 ≤ (x8_4 : Int) := of_decide_eq_true (by first | (with_reducible assumption) | assumption)
                         have q334 : x8_4 < (x6_5.length : Int) := of_decide_eq_true (by first | (with_reducible assumption) | assumption)
                         obtain ⟨ad334, e334, hx334_0⟩ := Kd.at_bool (Kd.R_reads' HO_6.out).2.2 x8_4 p334 q334
                         (try rw [← Nbq27.out] at hx334_0)
                         (try rw [← Nbq33.out] at hx334_0)
                         cases e334
                         replace p334 := eq_true p334
                         replace q334 := eq_true q334
                         have p335 : 0 ≤ ((rd (rd_L2 t324 x8_4) x9_5) : Int) := of_decide_eq_true (by first | (with_reducible assumption) | assumption)
                         have q335 : (rd (rd_L2 t324 x8_4) x9_5) < (x6_5.length : Int) := of_decide_eq_true (by first | (with_reducible assumption) | assumption)
                         obtain ⟨ad335, e335, hx335_0⟩ := Kd.at_bool (Kd.R_reads' HO_6.out).2.2 (rd (rd_L2 t324 x8_4) x9_5) p335 q335
                         (try rw [← Nbq27.out] at hx335_0)
                         (try rw [← Nbq33.out] at hx335_0)
                         obtain rfl : ad334 = ad335 := (by injection e335)
                         replace p335 := eq_true p335
                         replace q335 := eq_true q335
                         have p36 : 0 ≤ ((rd (rd_L2 t324 x8_4) x9_5) : Int) := of_decide_eq_true (by first | (with_reducible assumption) | assumption)
                         have q36 : ((rd (rd_L2 t324 x8_4) x9_5) : Int) < ((x6_5.length : Int) : Int) := of_decide_eq_true (by first | (with_reducible assumption) | assumption)
                         obtain ⟨go36, co36, eo36, gb36, gl36, cl36, HG36⟩ := Kd.R_form HO_6.out (by omega)
                         (first | cases eo36 | (injection eo36 with ea_ en_ ec_; (first | subst ea_ | (injection ea_ with ea_; subst ea_)); subst ec_; clear en_))
                         have GB36 := Aside0.mk gb36
                         have GG36 := Aside0.mk HG36
                         clear gb36 gl36 HG36
                         (first | simp only [add_plain] at hx334_0 | skip)
                         (first | simp only [add_plain] at hx335_0 | skip)
                         obtain ⟨hx36_0, hf36_0⟩ := Kd.R_celln false HO_6.out ((rd (rd_L2 t324 x8_4) x9_5) : Int) p36 q36
                         replace p36 := eq_true p36
                         replace q36 := eq_true q36
                         have HP38 := Kd.R_putg HO_6.out ((rd (rd_L2 t324 x8_4) x9_5) : Int) true
                         go_wp2_with (first | ((with_reducible refine gate_store (t := 4) (p := 67) rfl ?_); refine store_event (t := 4) (p := 67) (v := ?vo_w39) (w1 := (wr.setCell ⟨go36, ((rd (rd_L2 t324 x8_4) x9_5) : Int).toNat, none⟩ (.bool true))) ?hg ?ho ?hn ?hr ?_; (case ho => rfl); (case hg => rfl); (case hn => rfl); (case hr => first | (go_simp; done) | (go_simp; rfl)); intro w39 hw; have hg : wr.grownBy w39 (some go36) := (by rw [hw]; exact HP38.2); have hp_ : Kd.R Kd.bool 4 w39 w.heap.size (fun _ => True) (.slice (some ⟨go36, 0, none⟩) x6_5.length co37) y336 := (by rw [hw, Ny336.out]; exact HP38.1); clear HP38; have n0_ := Aside0.mk (Kd.S_over' (v := (.slice (some ⟨go36, 0, none⟩) x6_5.length co37)) (by (with_reducible repeat (first | apply Kd.S_alloc | apply Kd.S_drewN | apply Kd.S_drew)); exact HO_5.out) (Kd.R_typed HO_6.out) (by decide) hg); have n1_ := Aside0.mk (hp_); have n2_ := Aside0.mk (blk_grown (g := gb323) (o := .cells #[.string a0_0, .int .i64 a0_1, .int .i64 a0_2, .slice A0_3 l0_3.length c0_3, .slice A0_4 l0_4.length c0_4] 30 (0, 0)) (by (with_reducible repeat (first | refine blk_drewN ?_ _ | refine blk_drew ?_ | refine blk_alloc ?_ _)); exact BK323.out) hg (Kd.R_ne HO_6.out BK323.out (by decide))); have n3_ := Aside0.mk (Kd.R_over' (v := (.slice (some ⟨go36, 0, none⟩) x6_5.length co37)) (by (with_reducible repeat (first | apply Kd.R_alloc | apply Kd.R_drewN | apply Kd.R_drew)); exact HL331_0.out) (Kd.R_typed HO_6.out) (by decide) hg); have n4_ := Aside0.mk (Kd.R_over' (v := (.slice (some ⟨go36, 0, none⟩) x6_5.length co37)) (by (with_reducible repeat (first | apply Kd.R_alloc | apply Kd.R_drewN | apply Kd.R_drew)); exact HL332_0.out) (Kd.R_typed HO_6.out) (by decide) hg); have n5_ := Aside0.mk ((by rw [hw]; exact below_set (HB.out) GB36.out : Below w.heap.size w w39)); clear HO_5; clear HO_6; clear BK323; clear HL331_0; clear HL332_0; clear HB; have HO_5 := n0_; have HO_6 := n1_; have BK323 := n2_; have HL331_0 := n3_; have HL332_0 := n4_; have HB := n5_; clear n0_ n1_ n2_ n3_ n4_ n5_; clear hg hw hp_))
                         go_roundg k5
                         case measure => have := HJ5.out; have := HJ13.out; have := HK3.out; have := HK4.out; have := HK5.out; omega
                         case rel => exact ⟨(y336), (true), (wrap64 (x9_5 + 1)), (by first | rfl | (simp; done) | (simp [*]; done)), (by first | rfl | (simp; done) | (simp [*]; done)), H', ⟨by have := HJ5.out; have := HJ13.out; have := HK3.out; have := HK4.out; have := HK5.out; omega⟩, ⟨by (with_reducible repeat (first | apply Kd.S_alloc | apply Kd.S_drewN | apply Kd.S_drew)); exact HO_5.out⟩, ⟨by (with_reducible repeat (first | apply Kd.R_alloc | apply Kd.R_drewN | apply Kd.R_drew)); exact HO_6.out⟩, ⟨by (with_reducible repeat (first | refine blk_drewN ?_ _ | refine blk_drew ?_ | refine blk_alloc ?_ _)); exact BK323.out⟩, ⟨by repeat (first | (with_reducible first | exact HB.out | apply below_alloc | apply pw_below_drewN | apply below_drew1 | refine below_set ?_ GE323.out) | exact HB.out)⟩⟩
                       ·rw [if_neg c32] at H
                        exact absurd H (by simp)
                      ·rw [if_neg c31] at H
                       exact absurd H (by simp)
                    ·replace c28 := Bool.eq_false_iff.mpr c28
                     subst c28
                     have H1 : (balustraderef17_Without.l2 k5 a1 t324 x6_5 x7_5 x8_4 (wrap64 (x9_5 + 1))) = some r := by rw [if_neg (show ¬ (false = true) by decide)] at H; exact H
                     clear H
                     have H := H1
                     clear H1
                     have H' := Aside0.mk H
                     clear H
                     have p331 : 0 ≤ (x8_4 : Int) := of_decide_eq_true (by first | (with_reducible assumption) | assumption)
                     have q331 : x8_4 < (t324.length : Int) := of_decide_eq_true (by first | (with_reducible assumption) | assumption)
                     obtain ⟨ad331, A331_0, c331_0, e331, hx331_0, hl331_0, hi331_0⟩ := at_L2 (Kd.S_reads' HO_5.out).2.2 x8_4 p331 q331
                     cases e331
                     obtain ⟨ce331, hce331, hMe331, hcc331⟩ := Kd.S_get HO_5.out [] x8_4 p331 (by first | exact q331 | exact of_decide_eq_true (by first | (with_reducible assumption) | assumption) | (have e_ := (Kd.S_reads' HO_5.out).1; omega))
                     obtain ⟨ve331_0, rfl, ge331_0⟩ := hMe331
                     have hv331_0 := hcc331 0 _ rfl
                     rw [Nat.add_zero, show ((Kd.slice 3 (Kd.int .i64))).sz = 1 from rfl, Nat.mul_one] at hv331_0
                     replace hv331_0 := Option.some.inj (hv331_0.symm.trans hx331_0)
                     rw [hv331_0] at ge331_0
                     have HL331_0 := Aside0.mk (show Kd.R (Kd.int .i64) 3 _ _ _ _ (rd_L2 t324 x8_4) from ge331_0)
                     clear hv331_0 ge331_0
                     clear hcc331 hce331
                     have HR331_0 := Aside0.mk hi331_0
                     have HC331_0 := Aside0.mk hl331_0
                     clear hi331_0 hl331_0
                     replace p331 := eq_true p331
                     replace q331 := eq_true q331
                     have p332 : 0 ≤ (x8_4 : Int) := of_decide_eq_true (by first | (with_reducible assumption) | assumption)
                     have q332 : x8_4 < (t324.length : Int) := of_decide_eq_true (by first | (with_reducible assumption) | assumption)
                     obtain ⟨ad332, A332_0, c332_0, e332, hx332_0, hl332_0, hi332_0⟩ := at_L2 (Kd.S_reads' HO_5.out).2.2 x8_4 p332 q332
                     obtain rfl : ad331 = ad332 := (by injection e332)
                     obtain ⟨ce332, hce332, hMe332, hcc332⟩ := Kd.S_get HO_5.out [] x8_4 p332 (by first | exact q332 | exact of_decide_eq_true (by first | (with_reducible assumption) | assumption) | (have e_ := (Kd.S_reads' HO_5.out).1; omega))
                     obtain ⟨ve332_0, rfl, ge332_0⟩ := hMe332
                     have hv332_0 := hcc332 0 _ rfl
                     rw [Nat.add_zero, show ((Kd.slice 3 (Kd.int .i64))).sz = 1 from rfl, Nat.mul_one] at hv332_0
                     replace hv332_0 := Option.some.inj (hv332_0.symm.trans hx332_0)
                     rw [hv332_0] at ge332_0
                     have HL332_0 := Aside0.mk (show Kd.R (Kd.int .i64) 3 _ _ _ _ (rd_L2 t324 x8_4) from ge332_0)
                     clear hv332_0 ge332_0
                     clear hcc332 hce332
                     have HR332_0 := Aside0.mk hi332_0
                     have HC332_0 := Aside0.mk hl332_0
                     clear hi332_0 hl332_0
                     replace p332 := eq_true p332
                     replace q332 := eq_true q332
                     have ea_ := Option.some.inj (hx331_0.symm.trans hx332_0)
                     injection ea_ with ea_ en_ ec_
                     subst ea_
                     subst ec_
                     clear en_
                     have p333 : 0 ≤ (x9_5 : Int) := of_decide_eq_true (by first | (with_reducible assumption) | assumption)
                     have q333 : x9_5 < ((rd_L2 t324 x8_4).length : Int) := of_decide_eq_true (by first | (with_reducible assumption) | assumption)
                     obtain ⟨ad333, e333, hx333_0⟩ := Kd.at_int (by repeat (first | (with_reducible exact HR332_0.out) | (with_reducible refine Kd.C_alloc ?_ _) | (with_reducible refine Kd.C_drewN ?_ _) | (with_reducible refine Kd.C_drew ?_) | exact HR332_0.out)) x9_5 p333 q333
                     cases e333
                     replace p333 := eq_true p333
                     replace q333 := eq_true q333
                     obtain ⟨Ao40, co40, eo40⟩ := Kd.R_slice HO_6.out
                     subst eo40
                     have p334 : 0 ≤ (x8_4 : Int) := of_decide_eq_true (by first | (with_reducible assumption) | assumption)
                     have q334 : x8_4 < (x6_5.length : Int) := of_decide_eq_true (by first | (with_reducible assumption) | assumption)
                     obtain ⟨ad334, e334, hx334_0⟩ := Kd.at_bool (Kd.R_reads' HO_6.out).2.2 x8_4 p334 q334
                     (try rw [← Nbq27.out] at hx334_0)
                     cases e334
                     replace p334 := eq_true p334
                     replace q334 := eq_true q334
                     go_wp2
                     go_roundg k5
                     case measure => have := HJ5.out; have := HJ13.out; have := HK3.out; have := HK4.out; have := HK5.out; omega
                     case rel => exact ⟨(x6_5), (x7_5), (wrap64 (x9_5 + 1)), (by first | rfl | (simp; done) | (simp [*]; done)), (by first | rfl | (simp; done) | (simp [*]; done)), H', ⟨by have := HJ5.out; have := HJ13.out; have := HK3.out; have := HK4.out; have := HK5.out; omega⟩, ⟨by (with_reducible repeat (first | apply Kd.S_alloc | apply Kd.S_drewN | apply Kd.S_drew)); exact HO_5.out⟩, ⟨by (with_reducible repeat (first | apply Kd.R_alloc | apply Kd.R_drewN | apply Kd.R_drew)); exact HO_6.out⟩, ⟨by (with_reducible repeat (first | refine blk_drewN ?_ _ | refine blk_drew ?_ | refine blk_alloc ?_ _)); exact BK323.out⟩, ⟨by repeat (first | (with_reducible first | exact HB.out | apply below_alloc | apply pw_below_drewN | apply below_drew1 | refine below_set ?_ GE323.out) | exact HB.out)⟩⟩
                   ·rw [if_neg c26] at H
                    exact absurd H (by simp)
                  ·rw [if_neg c25] at H
                   exact absurd H (by simp)
                 ·rw [if_neg c24] at H
                  have c24b0 : decide (x9_5 < ((rd_L2 t324 x8_4).length : Int)) = false := decide_eq_false c24
                  clear c24
                  have H' := Aside0.mk H
                  clear H
                  have p331 : 0 ≤ (x8_4 : Int) := of_decide_eq_true (by first | (with_reducible assumption) | assumption)
                  have q331 : x8_4 < (t324.length : Int) := of_decide_eq_true (by first | (with_reducible assumption) | assumption)
                  obtain ⟨ad331, A331_0, c331_0, e331, hx331_0, hl331_0, hi331_0⟩ := at_L2 (Kd.S_reads' HO_5.out).2.2 x8_4 p331 q331
                  cases e331
                  obtain ⟨ce331, hce331, hMe331, hcc331⟩ := Kd.S_get HO_5.out [] x8_4 p331 (by first | exact q331 | exact of_decide_eq_true (by first | (with_reducible assumption) | assumption) | (have e_ := (Kd.S_reads' HO_5.out).1; omega))
                  obtain ⟨ve331_0, rfl, ge331_0⟩ := hMe331
                  have hv331_0 := hcc331 0 _ rfl
                  rw [Nat.add_zero, show ((Kd.slice 3 (Kd.int .i64))).sz = 1 from rfl, Nat.mul_one] at hv331_0
                  replace hv331_0 := Option.some.inj (hv331_0.symm.trans hx331_0)
                  rw [hv331_0] at ge331_0
                  have HL331_0 := Aside0.mk (show Kd.R (Kd.int .i64) 3 _ _ _ _ (rd_L2 t324 x8_4) from ge331_0)
                  clear hv331_0 ge331_0
                  clear hcc331 hce331
                  have HR331_0 := Aside0.mk hi331_0
                  have HC331_0 := Aside0.mk hl331_0
                  clear hi331_0 hl331_0
                  replace p331 := eq_true p331
                  replace q331 := eq_true q331
                  go_wp2
                  go_roundg k5
                  case measure => have := HJ5.out; have := HJ13.out; have := HK3.out; have := HK4.out; have := HK5.out; omega
                  case rel => exact ⟨(x6_5), (x7_5), (wrap64 (x8_4 + 1)), (by first | rfl | (simp; done) | (simp [*]; done)), (by first | rfl | (simp; done) | (simp [*]; done)), H', ⟨by have := HJ5.out; have := HJ13.out; have := HK3.out; have := HK4.out; have := HK5.out; omega⟩, ⟨by (with_reducible repeat (first | apply Kd.S_alloc | apply Kd.S_drewN | apply Kd.S_drew)); exact HO_5.out⟩, ⟨by (with_reducible repeat (first | apply Kd.R_alloc | apply Kd.R_drewN | apply Kd.R_drew)); exact HO_6.out⟩, ⟨by (with_reducible repeat (first | refine blk_drewN ?_ _ | refine blk_drew ?_ | refine blk_alloc ?_ _)); exact BK323.out⟩, ⟨by repeat (first | (with_reducible first | exact HB.out | apply below_alloc | apply pw_below_drewN | apply below_drew1 | refine below_set ?_ GE323.out) | exact HB.out)⟩⟩
                ·rw [if_neg c23] at H
                 exact absurd H (by simp)
               ·rw [if_neg c22] at H
                exact absurd H (by simp)
            ·rw [if_neg c21] at H
             have c21b0 : decide (x8_4 < (t324.length : Int)) = false := decide_eq_false c21
             clear c21
             have H' := Aside0.mk H
             clear H
             go_wp2
             go_roundg k4
             case measure => have := HJ5.out; have := HJ13.out; have := HK3.out; have := HK4.out; omega
             case rel => exact ⟨(x6_4), (x7_4), (by first | rfl | (simp; done) | (simp [*]; done)), H', ⟨by have := HJ5.out; have := HJ13.out; have := HK3.out; have := HK4.out; omega⟩, ⟨by (with_reducible repeat (first | apply Kd.S_alloc | apply Kd.S_drewN | apply Kd.S_drew)); exact HO_5.out⟩, ⟨by (with_reducible repeat (first | apply Kd.R_alloc | apply Kd.R_drewN | apply Kd.R_drew)); exact HO_6.out⟩, ⟨by (with_reducible repeat (first | refine blk_drewN ?_ _ | refine blk_drew ?_ | refine blk_alloc ?_ _)); exact BK323.out⟩, ⟨by repeat (first | (with_reducible first | exact HB.out | apply below_alloc | apply pw_below_drewN | apply below_drew1 | refine below_set ?_ GE323.out) | exact HB.out)⟩⟩
         ·replace c20 := Bool.eq_false_iff.mpr c20
          subst c20
          have H1 : (some x6_3) = some r := by rw [if_neg (show ¬ (false = true) by decide)] at H; exact H
          clear H
          have H := H1
          clear H1
          obtain rfl := Option.some.inj H
          go_wp2
          go_ret
          exact ⟨_, by first | rfl | (simp [errW_none, errW_some] <;> rfl) | (simp [*, errW_none, errW_some] <;> rfl), by (with_reducible repeat (first | apply Kd.R_alloc | apply Kd.R_drewN | apply Kd.R_drew)); exact HO_6.out, by repeat (first | (with_reducible first | exact HB.out | apply below_alloc | apply pw_below_drewN | apply below_drew1 | refine below_set ?_ GE323.out) | exact HB.out)⟩
  ·rw [if_neg c5] at H
   exact absurd H (by simp)
 ·rw [if_neg c4] at H
  exact absurd H (by simp)
end Go.Proofs.Ytjibojmbhbaneaa.PRm
