-- Written by a program of this session (wip/bprint.py), out of the translation, by way of the kit's print; hand-proved functions come from modules of their own.
import Derived.Test.YtjibojmbhbaneaaPRmx0
import Derived.Test.YtjibojmbhbaneaaPRmx6
import Derived.Test.YtjibojmbhbaneaaPRmx10
namespace Go.Proofs.Ytjibojmbhbaneaa.PRm
open Go.RowKit Go.Proofs.YtjibojmbhbaneaaW.PrintWords Go.Proofs.YtjibojmbhbaneaaW.PrintLast Go.Proofs.YtjibojmbhbaneaaW.PrintMore
attribute [local go_sem] max2_int min2_int max_two min_two max_three min_three max_four min_four   -- for this text's walks alone
set_option linter.unusedVariables false
set_option linter.unusedSimpArgs false
/-! ### balustraderef17_Reach: function 11 -/
def balustraderef17_Reach.f (k : Nat) (a0_0 : ByteArray) (a0_1 : Int) (a0_2 : Int) (l0_3 : List Int) (l0_4 : List (List (S50))) : Option (List Bool) := (balustraderef17_Without.f k a0_0 a0_1 a0_2 l0_3 l0_4 (-1)).bind fun t338 => (some t338)
set_option maxHeartbeats 8000000 in
set_option maxRecDepth 100000 in
theorem balustraderef17_Reach.calls (k : Nat) (a0_0 : ByteArray) (a0_1 : Int) (a0_2 : Int) (A0_3 : Option Addr) (c0_3 : Nat) (l0_3 : List Int) (A0_4 : Option Addr) (c0_4 : Nat) (l0_4 : List (List (S50))) (r : List Bool) (w : World) (hr0_3 : Kd.C (Kd.int .i64) w A0_3 l0_3.length l0_3) (hc0_3 : l0_3.length ≤ c0_3) (hr0_4 : Kd.C (Kd.slice 50 k50) w A0_4 l0_4.length l0_4) (hc0_4 : l0_4.length ≤ c0_4) (h : balustraderef17_Reach.f k a0_0 a0_1 a0_2 l0_3 l0_4 = some r) :
  Calls Try.prog 11 #[.agg #[.string a0_0, .int .i64 a0_1, .int .i64 a0_2, .slice A0_3 l0_3.length c0_3, .slice A0_4 l0_4.length c0_4]] w fun e w' => ∃ v0_ : Value, e = .returned (v0_) ∧ Kd.R Kd.bool 4 w' w.heap.size (fun _ => True) v0_ r ∧ Below w.heap.size w w' := by
 have hu30 := Try.underlying30
 have HR0_3 := Aside0.mk hr0_3
 have HC0_3 := Aside0.mk hc0_3
 clear hr0_3 hc0_3
 have HR0_4 := Aside0.mk hr0_4
 have HC0_4 := Aside0.mk hc0_4
 clear hr0_4 hc0_4
 have HB := Aside0.mk (Below.refl w.heap.size w)
 have H : ((balustraderef17_Without.f k a0_0 a0_1 a0_2 l0_3 l0_4 (-1)).bind fun t338 => (some t338)) = some r := h
 clear h
 replace H := Option.bind_eq_some_iff.mp H
 obtain ⟨t338, A20, H⟩ := H
 replace H : (some t338) = some r := H
 have A2 := Aside0.mk A20
 clear A20
 obtain rfl := Option.some.inj H
 go_enter Try.func11, Try.ntmps11
 go_wp2_with (first | ((with_reducible refine gate_dst (N := 1) rfl ?_); refine box_event ?hg (N := 1) ?hd (cs := #[.string a0_0, .int .i64 a0_1, .int .i64 a0_2, .slice A0_3 l0_3.length c0_3, .slice A0_4 l0_4.length c0_4]) (t := 30) ?hr ?_; (case hd => rfl); (case hg => rfl); (case hr => first | (go_simp; done) | (go_simp; rfl)); intro gb337 hg w3 hbox hb; have n0_ := Aside0.mk (below_step (by repeat (first | (with_reducible first | exact HB.out | apply below_alloc | apply pw_below_drewN | apply below_drew1) | exact HB.out)) hb); have n1_ := Aside0.mk (hbox); have n2_ := Aside0.mk ((by rw [hg]; exact (below_size (by repeat (first | (with_reducible first | exact HB.out | apply below_alloc | apply pw_below_drewN | apply below_drew1) | exact HB.out))) : w.heap.size ≤ gb337)); have n3_ := Aside0.mk ((by rw [hg]; exact (below_size (by repeat (first | (with_reducible first | exact HB.out | apply below_alloc | apply pw_below_drewN | apply below_drew1) | exact HB.out))) : w.heap.size ≤ gb337)); clear HB; have HB := n0_; have BK337 := n1_; have GW337 := n2_; have GE337 := n3_; clear n0_ n1_ n2_ n3_; clear hb hbox hg; have hcz4_0 : w3.cell? ⟨gb337, 0, none⟩ = some (.string a0_0) := (blk_cell BK337.out 0).trans rfl; have hcz4_1 : w3.cell? ⟨gb337, 1, none⟩ = some (.int .i64 a0_1) := (blk_cell BK337.out 1).trans rfl; have hcz4_2 : w3.cell? ⟨gb337, 2, none⟩ = some (.int .i64 a0_2) := (blk_cell BK337.out 2).trans rfl; have hcz4_3 : w3.cell? ⟨gb337, 3, none⟩ = some (.slice A0_3 l0_3.length c0_3) := (blk_cell BK337.out 3).trans rfl; have hcz4_4 : w3.cell? ⟨gb337, 4, none⟩ = some (.slice A0_4 l0_4.length c0_4) := (blk_cell BK337.out 4).trans rfl; have hfz4_0 := blk_frozen BK337.out 0; have hfz4_1 := blk_frozen BK337.out 1; have hfz4_2 := blk_frozen BK337.out 2; have hfz4_3 := blk_frozen BK337.out 3; have hfz4_4 := blk_frozen BK337.out 4) | ((with_reducible refine gate_callee (f := 31) rfl ?_); refine goesL_ (some 4) rfl rfl Try.func31 (by kernel_rfl) rfl #[.agg #[.string a0_0, .int .i64 a0_1, .int .i64 a0_2, .slice A0_3 l0_3.length c0_3, .slice A0_4 l0_4.length c0_4], .int .i64 (-1)] rfl (by (try simp only [List.map_toArray, List.map_cons, List.map_nil]); first | done | rfl | (simp only [List.length_drop, List.length_take]; rfl)) ?_; (with_reducible refine (balustraderef17_Without.calls k a0_0 a0_1 a0_2 _ _ l0_3 _ _ l0_4 (-1) t338 _ ?side1 ?side2 ?side3 ?side4 A2.out).mono ?_); (case side1 => repeat (first | exact (Kd.C_below HR0_3.out HB.out) | (with_reducible refine Kd.C_alloc ?_ _) | (with_reducible refine Kd.C_drewN ?_ _) | (with_reducible refine Kd.C_drew ?_))); (case side2 => exact HC0_3.out); (case side3 => repeat (first | exact (Kd.C_below HR0_4.out HB.out) | (with_reducible refine Kd.C_alloc ?_ _) | (with_reducible refine Kd.C_drewN ?_ _) | (with_reducible refine Kd.C_drew ?_))); (case side4 => exact HC0_4.out); rintro e w5 ⟨v339, rfl, ho0, hb⟩; refine ⟨_, rfl, ?_⟩; have n0_ := Aside0.mk (Kd.R_lower ho0 (below_size (by repeat (first | (with_reducible first | exact HB.out | apply below_alloc | apply pw_below_drewN | apply below_drew1 | refine below_set ?_ GE337.out) | exact HB.out)))); have n1_ := Aside0.mk (blk_below (g := gb337) (o := .cells #[.string a0_0, .int .i64 a0_1, .int .i64 a0_2, .slice A0_3 l0_3.length c0_3, .slice A0_4 l0_4.length c0_4] 30 (0, 0)) (by (with_reducible repeat (first | refine blk_drewN ?_ _ | refine blk_drew ?_ | refine blk_alloc ?_ _)); exact BK337.out) hb); have n2_ := Aside0.mk (below_step (by repeat (first | (with_reducible first | exact HB.out | apply below_alloc | apply pw_below_drewN | apply below_drew1 | refine below_set ?_ GE337.out) | exact HB.out)) hb); clear BK337; clear HB; have HO340 := n0_; have BK337 := n1_; have HB := n2_; clear n0_ n1_ n2_; (try clear hb); (try clear hb2); (try clear hk); (try clear hi); (try clear ho0)))
 go_ret
 exact ⟨_, by first | rfl | (simp [errW_none, errW_some] <;> rfl) | (simp [*, errW_none, errW_some] <;> rfl), by (with_reducible repeat (first | apply Kd.R_alloc | apply Kd.R_drewN | apply Kd.R_drew)); exact HO340.out, by repeat (first | (with_reducible first | exact HB.out | apply below_alloc | apply pw_below_drewN | apply below_drew1 | refine below_set ?_ GE337.out) | exact HB.out)⟩
/-! ### balustraderef29_free: function 53 -/
mutual
def balustraderef29_free.l0 : Nat → List (List Int) → List Int → Int → List Int → Int → Option (Bool)
 | 0, _, _, _, _, _ => none
 | k + 1, x0, x1, x3, x9, x10 => if x10 < (x9.length : Int) then (balustraderef29_free.l1 k x0 x1 x3 x9 x10 0) else (some false)
def balustraderef29_free.l1 : Nat → List (List Int) → List Int → Int → List Int → Int → Int → Option (Bool)
 | 0, _, _, _, _, _, _ => none
 | k + 1, x0, x1, x3, x9, x10, x11 => if 0 ≤ x10 then (if x10 < (x9.length : Int) then (if 0 ≤ (rd x9 x10) then (if (rd x9 x10) < (x0.length : Int) then (if x11 < ((rd_L2 x0 (rd x9 x10)).length : Int) then (if 0 ≤ x11 then (if (rd (rd_L2 x0 (rd x9 x10)) x11) = x3 then (some true) else ((balustradebase_HasInt.f k x1 (rd (rd_L2 x0 (rd x9 x10)) x11)).bind fun t350 => (if t350 = true then (balustraderef29_free.l1 k x0 x1 x3 x9 x10 (wrap64 (x11 + 1))) else ((balustradebase_HasInt.f k x9 (rd (rd_L2 x0 (rd x9 x10)) x11)).bind fun t351 => (if t351 = true then (balustraderef29_free.l1 k x0 x1 x3 x9 x10 (wrap64 (x11 + 1))) else (if x9.length < 17592186044416 then (balustraderef29_free.l1 k x0 x1 x3 (x9 ++ [rd (rd_L2 x0 (rd x9 x10)) x11]) x10 (wrap64 (x11 + 1))) else (none))))))) else (none)) else (balustraderef29_free.l0 k x0 x1 x3 x9 (wrap64 (x10 + 1)))) else (none)) else (none)) else (none)) else (none)
end
def balustraderef29_free.f (k : Nat) (l0 : List (List Int)) (l1 : List Int) (a2 : Int) (a3 : Int) : Option (Bool) := (balustradebase_HasInt.f k l1 a2).bind fun t341 => (if t341 = true then (some false) else (balustraderef29_free.l0 k l0 l1 a3 (([a2] : List Int)) 0))
set_option maxHeartbeats 8000000 in
set_option maxRecDepth 100000 in
theorem balustraderef29_free.calls (k : Nat) (A0 : Option Addr) (c0 : Nat) (l0 : List (List Int)) (A1 : Option Addr) (c1 : Nat) (l1 : List Int) (a2 : Int) (a3 : Int) (r : Bool) (w : World) (hr0 : Kd.C (Kd.slice 3 (Kd.int .i64)) w A0 l0.length l0) (hc0 : l0.length ≤ c0) (hr1 : Kd.C (Kd.int .i64) w A1 l1.length l1) (hc1 : l1.length ≤ c1) (h : balustraderef29_free.f k l0 l1 a2 a3 = some r) :
  Calls Try.prog 53 #[.slice A0 l0.length c0, .slice A1 l1.length c1, .int .i64 a2, .int .i64 a3] w fun e w' => e = .returned (.bool r) ∧ Below w.heap.size w w' := by
 have HR0 := Aside0.mk hr0
 have HC0 := Aside0.mk hc0
 clear hr0 hc0
 have HR1 := Aside0.mk hr1
 have HC1 := Aside0.mk hc1
 clear hr1 hc1
 have HB := Aside0.mk (Below.refl w.heap.size w)
 have H : ((balustradebase_HasInt.f k l1 a2).bind fun t341 => (if t341 = true then (some false) else (balustraderef29_free.l0 k l0 l1 a3 (([a2] : List Int)) 0))) = some r := h
 clear h
 replace H := Option.bind_eq_some_iff.mp H
 obtain ⟨t341, A50, H⟩ := H
 replace H : (if t341 = true then (some false) else (balustraderef29_free.l0 k l0 l1 a3 (([a2] : List Int)) 0)) = some r := H
 have A5 := Aside0.mk A50
 clear A50
 by_cases c6 : t341 = true
 ·subst c6
  have H1 : (some false) = some r := by rw [if_pos rfl] at H; exact H
  clear H
  have H := H1
  clear H1
  obtain rfl := Option.some.inj H
  go_enter Try.func53, Try.ntmps53
  go_wp2_with (first | ((with_reducible refine gate_callee (f := 13) rfl ?_); refine goesL_ (some 15) rfl rfl Try.func13 (by kernel_rfl) rfl #[.slice A1 l1.length c1, .int .i64 a2] rfl (by (try simp only [List.map_toArray, List.map_cons, List.map_nil]); first | done | rfl | (simp only [List.length_drop, List.length_take]; rfl)) ?_; (with_reducible refine (balustradebase_HasInt.calls k _ _ l1 a2 true _ ?side1 ?side2 A5.out).mono ?_); (case side1 => repeat (first | exact HR1.out | (with_reducible refine Kd.C_alloc ?_ _) | (with_reducible refine Kd.C_drewN ?_ _) | (with_reducible refine Kd.C_drew ?_))); (case side2 => exact HC1.out); rintro e w' ⟨rfl, ⟨nd, rfl⟩⟩; refine ⟨_, rfl, ?_⟩))
  go_ret
  exact ⟨by first | rfl | (simp [errW_none, errW_some] <;> rfl) | (simp [*, errW_none, errW_some] <;> rfl), by repeat (first | (with_reducible first | exact HB.out | apply below_alloc | apply pw_below_drewN | apply below_drew1) | exact HB.out)⟩
 ·replace c6 := Bool.eq_false_iff.mpr c6
  subst c6
  have H1 : (balustraderef29_free.l0 k l0 l1 a3 (([a2] : List Int)) 0) = some r := by rw [if_neg (show ¬ (false = true) by decide)] at H; exact H
  clear H
  have H := H1
  clear H1
  obtain ⟨y342, hy342⟩ : ∃ y_ : List Int, y_ = (([a2] : List Int)) := ⟨_, rfl⟩
  replace H : (balustraderef29_free.l0 k l0 l1 a3 y342 0) = some r := by first | (rw [hy342]; with_reducible exact H) | (have H2_ := (Option.bind_some _ _).symm.trans H; rw [hy342]; with_reducible exact H2_) | (have H2_ := (Option.bind_some _ _).symm.trans H; with_reducible exact H2_) | with_reducible exact H | (rw [hy342]; exact H) | exact H
  have Ny342 := Aside0.mk hy342
  clear hy342
  have H' := Aside0.mk H
  clear H
  go_enter Try.func53, Try.ntmps53
  go_wp2_with (first | ((with_reducible refine gate_callee (f := 13) rfl ?_); refine goesL_ (some 15) rfl rfl Try.func13 (by kernel_rfl) rfl #[.slice A1 l1.length c1, .int .i64 a2] rfl (by (try simp only [List.map_toArray, List.map_cons, List.map_nil]); first | done | rfl | (simp only [List.length_drop, List.length_take]; rfl)) ?_; (with_reducible refine (balustradebase_HasInt.calls k _ _ l1 a2 false _ ?side1 ?side2 A5.out).mono ?_); (case side1 => repeat (first | exact HR1.out | (with_reducible refine Kd.C_alloc ?_ _) | (with_reducible refine Kd.C_drewN ?_ _) | (with_reducible refine Kd.C_drew ?_))); (case side2 => exact HC1.out); rintro e w' ⟨rfl, ⟨nd, rfl⟩⟩; refine ⟨_, rfl, ?_⟩) | ((with_reducible refine gate_dst (N := 17) rfl ?_); refine Kd.R_lit (Kd.int .i64) _ 3 ?hg (N := 17) ?hd (xs := ([a2] : List Int)) (inner := [.int .i64 a2]) (ok := fun _ => True) (okp := fun _ => True) ?hr ?hp (fun _ hk => hk) trivial (Below.refl _ _) (Nat.le_refl _) (by simp) ?_; (case hd => rfl); (case hg => rfl); (case hr => first | (go_simp; done) | (go_simp; rfl)); (case hp => exact (Reps.one (show Kd.M (Kd.int .i64) _ _ _ a2 [.int .i64 a2] from rfl) (Reps.none _ _))); intro v343 w7 ho8 hb hg_ hnew_; clear hg_ hnew_; (first | rw [← Ny342.out] at ho8 | (simp only [Int.reduceToNat] at ho8; rw [← Ny342.out] at ho8)); have n0_ := Aside0.mk (Kd.R_lower ho8 (below_size (by repeat (first | (with_reducible first | exact HB.out | apply below_alloc | apply pw_below_drewN | apply below_drew1) | exact HB.out)))); have n1_ := Aside0.mk (below_step (by repeat (first | (with_reducible first | exact HB.out | apply below_alloc | apply pw_below_drewN | apply below_drew1) | exact HB.out)) hb); clear HB; have HO344 := n0_; have HB := n1_; clear n0_ n1_; clear hb ho8))
  go_loopg [9, 10] k (fun kq v9 v10 w' => ∃ (x9_1 : List Int) (x10_1 : Int), v10 = .int .i64 x10_1 ∧ Aside0 (balustraderef29_free.l0 kq l0 l1 a3 x9_1 x10_1 = some r) ∧ Aside0 (kq ≤ k) ∧ Aside0 (Kd.R (Kd.int .i64) 3 w' w.heap.size (fun _ => True) v9 x9_1) ∧ Aside0 (Below w.heap.size w w'))
  case atStart => exact ⟨(y342), (0), (by first | rfl | (simp; done) | (simp [*]; done)), H', ⟨Nat.le_refl _⟩, ⟨by (with_reducible repeat (first | apply Kd.R_alloc | apply Kd.R_drewN | apply Kd.R_drew)); exact HO344.out⟩, ⟨by repeat (first | (with_reducible first | exact HB.out | apply below_alloc | apply pw_below_drewN | apply below_drew1) | exact HB.out)⟩⟩
  case round =>
   clear H'
   try clear c1
   try clear p2
   try clear c5
   try clear c6
   obtain ⟨x9_1, x10_1, rfl, HA, HK1, HO_9, HB⟩ := hrel
   cases gk with
   | zero => exact absurd HA.out (by simp [balustraderef29_free.l0])
   | succ k1 =>
    have H := HA.out
    clear HA
    simp only [balustraderef29_free.l0] at H
    by_cases c9 : x10_1 < (x9_1.length : Int)
    ·rw [if_pos c9] at H
     have c9b0 : decide (x10_1 < (x9_1.length : Int)) = true := decide_eq_true c9
     clear c9
     have H' := Aside0.mk H
     clear H
     obtain ⟨Ao10, co10, eo10⟩ := Kd.R_slice HO_9.out
     subst eo10
     go_wp2
     go_loopg [9, 11] k1 (fun kq v9 v11 w' => ∃ (x9_2 : List Int) (x11_2 : Int), v11 = .int .i64 x11_2 ∧ Aside0 (balustraderef29_free.l1 kq l0 l1 a3 x9_2 x10_1 x11_2 = some r) ∧ Aside0 (kq ≤ k1) ∧ Aside0 (Kd.R (Kd.int .i64) 3 w' w.heap.size (fun _ => True) v9 x9_2) ∧ Aside0 (Below w.heap.size w w'))
     case atStart => exact ⟨(x9_1), (0), (by first | rfl | (simp; done) | (simp [*]; done)), H', ⟨Nat.le_refl _⟩, ⟨by (with_reducible repeat (first | apply Kd.R_alloc | apply Kd.R_drewN | apply Kd.R_drew)); exact HO_9.out⟩, ⟨by repeat (first | (with_reducible first | exact HB.out | apply below_alloc | apply pw_below_drewN | apply below_drew1) | exact HB.out)⟩⟩
     case round =>
      clear H'
      try clear c1
      try clear p2
      try clear c5
      try clear c6
      try clear c9
      try clear c9b0
      try clear p2
      obtain ⟨x9_2, x11_2, rfl, HA, HK2, HO_9, HB⟩ := hrel
      cases gk with
      | zero => exact absurd HA.out (by simp [balustraderef29_free.l1])
      | succ k2 =>
       have H := HA.out
       clear HA
       simp only [balustraderef29_free.l1] at H
       by_cases c11 : 0 ≤ x10_1
       ·rw [if_pos c11] at H
        have c11b0 : decide (0 ≤ x10_1) = true := decide_eq_true c11
        clear c11
        by_cases c12 : x10_1 < (x9_2.length : Int)
        ·rw [if_pos c12] at H
         have c12b0 : decide (x10_1 < (x9_2.length : Int)) = true := decide_eq_true c12
         clear c12
         by_cases c13 : 0 ≤ (rd x9_2 x10_1)
         ·rw [if_pos c13] at H
          have c13b0 : decide (0 ≤ (rd x9_2 x10_1)) = true := decide_eq_true c13
          clear c13
          by_cases c14 : (rd x9_2 x10_1) < (l0.length : Int)
          ·rw [if_pos c14] at H
           have c14b0 : decide ((rd x9_2 x10_1) < (l0.length : Int)) = true := decide_eq_true c14
           clear c14
           by_cases c15 : x11_2 < ((rd_L2 l0 (rd x9_2 x10_1)).length : Int)
           ·rw [if_pos c15] at H
            have c15b0 : decide (x11_2 < ((rd_L2 l0 (rd x9_2 x10_1)).length : Int)) = true := decide_eq_true c15
            clear c15
            by_cases c16 : 0 ≤ x11_2
            ·rw [if_pos c16] at H
             have c16b0 : decide (0 ≤ x11_2) = true := decide_eq_true c16
             clear c16
             by_cases c17 : (rd (rd_L2 l0 (rd x9_2 x10_1)) x11_2) = a3
             ·rw [if_pos c17] at H
              have c17b0 : ((rd (rd_L2 l0 (rd x9_2 x10_1)) x11_2) == a3) = true := beq_iff_eq.mpr c17
              have c17b1 : ((rd (rd_L2 l0 (rd x9_2 x10_1)) x11_2) != a3) = false := bne_eq_false_iff_eq.mpr c17
              clear c17
              obtain rfl := Option.some.inj H
              obtain ⟨Ao18, co18, eo18⟩ := Kd.R_slice HO_9.out
              subst eo18
              have p345 : 0 ≤ (x10_1 : Int) := of_decide_eq_true (by first | (with_reducible assumption) | assumption)
              have q345 : x10_1 < (x9_2.length : Int) := of_decide_eq_true (by first | (with_reducible assumption) | assumption)
              obtain ⟨ad345, e345, hx345_0⟩ := Kd.at_int (Kd.R_reads' HO_9.out).2.2 x10_1 p345 q345
              cases e345
              replace p345 := eq_true p345
              replace q345 := eq_true q345
              have p346 : 0 ≤ ((rd x9_2 x10_1) : Int) := of_decide_eq_true (by first | (with_reducible assumption) | assumption)
              have q346 : (rd x9_2 x10_1) < (l0.length : Int) := of_decide_eq_true (by first | (with_reducible assumption) | assumption)
              obtain ⟨ad346, A346_0, c346_0, e346, hx346_0, hl346_0, hi346_0⟩ := at_L2 HR0.out (rd x9_2 x10_1) p346 q346
              cases e346
              replace hx346_0 := (HB.out.cell (World.block_lt_of_cell? w _ hx346_0)).trans hx346_0
              have HR346_0 := Aside0.mk hi346_0
              have HC346_0 := Aside0.mk hl346_0
              clear hi346_0 hl346_0
              replace p346 := eq_true p346
              replace q346 := eq_true q346
              have p347 : 0 ≤ (x10_1 : Int) := of_decide_eq_true (by first | (with_reducible assumption) | assumption)
              have q347 : x10_1 < (x9_2.length : Int) := of_decide_eq_true (by first | (with_reducible assumption) | assumption)
              obtain ⟨ad347, e347, hx347_0⟩ := Kd.at_int (Kd.R_reads' HO_9.out).2.2 x10_1 p347 q347
              obtain rfl : ad345 = ad347 := (by injection e347)
              replace p347 := eq_true p347
              replace q347 := eq_true q347
              have p348 : 0 ≤ ((rd x9_2 x10_1) : Int) := of_decide_eq_true (by first | (with_reducible assumption) | assumption)
              have q348 : (rd x9_2 x10_1) < (l0.length : Int) := of_decide_eq_true (by first | (with_reducible assumption) | assumption)
              obtain ⟨ad348, A348_0, c348_0, e348, hx348_0, hl348_0, hi348_0⟩ := at_L2 HR0.out (rd x9_2 x10_1) p348 q348
              obtain rfl : ad346 = ad348 := (by injection e348)
              replace hx348_0 := (HB.out.cell (World.block_lt_of_cell? w _ hx348_0)).trans hx348_0
              have HR348_0 := Aside0.mk hi348_0
              have HC348_0 := Aside0.mk hl348_0
              clear hi348_0 hl348_0
              replace p348 := eq_true p348
              replace q348 := eq_true q348
              have ea_ := Option.some.inj (hx346_0.symm.trans hx348_0)
              injection ea_ with ea_ en_ ec_
              subst ea_
              subst ec_
              clear en_
              have p349 : 0 ≤ (x11_2 : Int) := of_decide_eq_true (by first | (with_reducible assumption) | assumption)
              have q349 : x11_2 < ((rd_L2 l0 (rd x9_2 x10_1)).length : Int) := of_decide_eq_true (by first | (with_reducible assumption) | assumption)
              obtain ⟨ad349, e349, hx349_0⟩ := Kd.at_int HR348_0.out x11_2 p349 q349
              cases e349
              replace hx349_0 := (HB.out.cell (World.block_lt_of_cell? w _ hx349_0)).trans hx349_0
              replace p349 := eq_true p349
              replace q349 := eq_true q349
              go_wp2
              go_ret
              exact ⟨by first | rfl | (simp [errW_none, errW_some] <;> rfl) | (simp [*, errW_none, errW_some] <;> rfl), by repeat (first | (with_reducible first | exact HB.out | apply below_alloc | apply pw_below_drewN | apply below_drew1) | exact HB.out)⟩
             ·rw [if_neg c17] at H
              have c17b0 : ((rd (rd_L2 l0 (rd x9_2 x10_1)) x11_2) == a3) = false := beq_eq_false_iff_ne.mpr c17
              have c17b1 : ((rd (rd_L2 l0 (rd x9_2 x10_1)) x11_2) != a3) = true := bne_iff_ne.mpr c17
              replace H := Option.bind_eq_some_iff.mp H
              obtain ⟨t350, A190, H⟩ := H
              replace H : (if t350 = true then (balustraderef29_free.l1 k2 l0 l1 a3 x9_2 x10_1 (wrap64 (x11_2 + 1))) else ((balustradebase_HasInt.f k2 x9_2 (rd (rd_L2 l0 (rd x9_2 x10_1)) x11_2)).bind fun t351 => (if t351 = true then (balustraderef29_free.l1 k2 l0 l1 a3 x9_2 x10_1 (wrap64 (x11_2 + 1))) else (if x9_2.length < 17592186044416 then (balustraderef29_free.l1 k2 l0 l1 a3 (x9_2 ++ [rd (rd_L2 l0 (rd x9_2 x10_1)) x11_2]) x10_1 (wrap64 (x11_2 + 1))) else (none))))) = some r := H
              have A19 := Aside0.mk A190
              clear A190
              by_cases c20 : t350 = true
              ·subst c20
               have H1 : (balustraderef29_free.l1 k2 l0 l1 a3 x9_2 x10_1 (wrap64 (x11_2 + 1))) = some r := by rw [if_pos rfl] at H; exact H
               clear H
               have H := H1
               clear H1
               have H' := Aside0.mk H
               clear H
               obtain ⟨Ao21, co21, eo21⟩ := Kd.R_slice HO_9.out
               subst eo21
               have p345 : 0 ≤ (x10_1 : Int) := of_decide_eq_true (by first | (with_reducible assumption) | assumption)
               have q345 : x10_1 < (x9_2.length : Int) := of_decide_eq_true (by first | (with_reducible assumption) | assumption)
               obtain ⟨ad345, e345, hx345_0⟩ := Kd.at_int (Kd.R_reads' HO_9.out).2.2 x10_1 p345 q345
               cases e345
               replace p345 := eq_true p345
               replace q345 := eq_true q345
               have p346 : 0 ≤ ((rd x9_2 x10_1) : Int) := of_decide_eq_true (by first | (with_reducible assumption) | assumption)
               have q346 : (rd x9_2 x10_1) < (l0.length : Int) := of_decide_eq_true (by first | (with_reducible assumption) | assumption)
               obtain ⟨ad346, A346_0, c346_0, e346, hx346_0, hl346_0, hi346_0⟩ := at_L2 HR0.out (rd x9_2 x10_1) p346 q346
               cases e346
               replace hx346_0 := (HB.out.cell (World.block_lt_of_cell? w _ hx346_0)).trans hx346_0
               have HR346_0 := Aside0.mk hi346_0
               have HC346_0 := Aside0.mk hl346_0
               clear hi346_0 hl346_0
               replace p346 := eq_true p346
               replace q346 := eq_true q346
               have p347 : 0 ≤ (x10_1 : Int) := of_decide_eq_true (by first | (with_reducible assumption) | assumption)
               have q347 : x10_1 < (x9_2.length : Int) := of_decide_eq_true (by first | (with_reducible assumption) | assumption)
               obtain ⟨ad347, e347, hx347_0⟩ := Kd.at_int (Kd.R_reads' HO_9.out).2.2 x10_1 p347 q347
               obtain rfl : ad345 = ad347 := (by injection e347)
               replace p347 := eq_true p347
               replace q347 := eq_true q347
               have p348 : 0 ≤ ((rd x9_2 x10_1) : Int) := of_decide_eq_true (by first | (with_reducible assumption) | assumption)
               have q348 : (rd x9_2 x10_1) < (l0.length : Int) := of_decide_eq_true (by first | (with_reducible assumption) | assumption)
               obtain ⟨ad348, A348_0, c348_0, e348, hx348_0, hl348_0, hi348_0⟩ := at_L2 HR0.out (rd x9_2 x10_1) p348 q348
               obtain rfl : ad346 = ad348 := (by injection e348)
               replace hx348_0 := (HB.out.cell (World.block_lt_of_cell? w _ hx348_0)).trans hx348_0
               have HR348_0 := Aside0.mk hi348_0
               have HC348_0 := Aside0.mk hl348_0
               clear hi348_0 hl348_0
               replace p348 := eq_true p348
               replace q348 := eq_true q348
               have ea_ := Option.some.inj (hx346_0.symm.trans hx348_0)
               injection ea_ with ea_ en_ ec_
               subst ea_
               subst ec_
               clear en_
               have p349 : 0 ≤ (x11_2 : Int) := of_decide_eq_true (by first | (with_reducible assumption) | assumption)
               have q349 : x11_2 < ((rd_L2 l0 (rd x9_2 x10_1)).length : Int) := of_decide_eq_true (by first | (with_reducible assumption) | assumption)
               obtain ⟨ad349, e349, hx349_0⟩ := Kd.at_int HR348_0.out x11_2 p349 q349
               cases e349
               replace hx349_0 := (HB.out.cell (World.block_lt_of_cell? w _ hx349_0)).trans hx349_0
               replace p349 := eq_true p349
               replace q349 := eq_true q349
               go_wp2_with (first | ((with_reducible refine gate_callee (f := 13) rfl ?_); refine goesL_ (some 51) rfl rfl Try.func13 (by kernel_rfl) rfl #[.slice A1 l1.length c1, .int .i64 (rd (rd_L2 l0 (rd x9_2 x10_1)) x11_2)] rfl (by (try simp only [List.map_toArray, List.map_cons, List.map_nil]); first | done | rfl | (simp only [List.length_drop, List.length_take]; rfl)) ?_; (with_reducible refine (balustradebase_HasInt.calls k2 _ _ l1 (rd (rd_L2 l0 (rd x9_2 x10_1)) x11_2) true _ ?side1 ?side2 A19.out).mono ?_); (case side1 => repeat (first | exact (Kd.C_below HR1.out HB.out) | (with_reducible refine Kd.C_alloc ?_ _) | (with_reducible refine Kd.C_drewN ?_ _) | (with_reducible refine Kd.C_drew ?_))); (case side2 => exact HC1.out); rintro e w' ⟨rfl, ⟨nd, rfl⟩⟩; refine ⟨_, rfl, ?_⟩))
               go_roundg k2
               case measure => have := HK1.out; have := HK2.out; omega
               case rel => exact ⟨(x9_2), (wrap64 (x11_2 + 1)), (by first | rfl | (simp; done) | (simp [*]; done)), H', ⟨by have := HK1.out; have := HK2.out; omega⟩, ⟨by (with_reducible repeat (first | apply Kd.R_alloc | apply Kd.R_drewN | apply Kd.R_drew)); exact HO_9.out⟩, ⟨by repeat (first | (with_reducible first | exact HB.out | apply below_alloc | apply pw_below_drewN | apply below_drew1) | exact HB.out)⟩⟩
              ·replace c20 := Bool.eq_false_iff.mpr c20
               subst c20
               have H1 : ((balustradebase_HasInt.f k2 x9_2 (rd (rd_L2 l0 (rd x9_2 x10_1)) x11_2)).bind fun t351 => (if t351 = true then (balustraderef29_free.l1 k2 l0 l1 a3 x9_2 x10_1 (wrap64 (x11_2 + 1))) else (if x9_2.length < 17592186044416 then (balustraderef29_free.l1 k2 l0 l1 a3 (x9_2 ++ [rd (rd_L2 l0 (rd x9_2 x10_1)) x11_2]) x10_1 (wrap64 (x11_2 + 1))) else (none)))) = some r := by rw [if_neg (show ¬ (false = true) by decide)] at H; exact H
               clear H
               have H := H1
               clear H1
               replace H := Option.bind_eq_some_iff.mp H
               obtain ⟨t351, A220, H⟩ := H
               replace H : (if t351 = true then (balustraderef29_free.l1 k2 l0 l1 a3 x9_2 x10_1 (wrap64 (x11_2 + 1))) else (if x9_2.length < 17592186044416 then (balustraderef29_free.l1 k2 l0 l1 a3 (x9_2 ++ [rd (rd_L2 l0 (rd x9_2 x10_1)) x11_2]) x10_1 (wrap64 (x11_2 + 1))) else (none))) = some r := H
               have A22 := Aside0.mk A220
               clear A220
               by_cases c23 : t351 = true
               ·subst c23
                have H1 : (balustraderef29_free.l1 k2 l0 l1 a3 x9_2 x10_1 (wrap64 (x11_2 + 1))) = some r := by rw [if_pos rfl] at H; exact H
                clear H
                have H := H1
                clear H1
                have H' := Aside0.mk H
                clear H
                obtain ⟨Ao24, co24, eo24⟩ := Kd.R_slice HO_9.out
                subst eo24
                have p345 : 0 ≤ (x10_1 : Int) := of_decide_eq_true (by first | (with_reducible assumption) | assumption)
                have q345 : x10_1 < (x9_2.length : Int) := of_decide_eq_true (by first | (with_reducible assumption) | assumption)
                obtain ⟨ad345, e345, hx345_0⟩ := Kd.at_int (Kd.R_reads' HO_9.out).2.2 x10_1 p345 q345
                cases e345
                replace p345 := eq_true p345
                replace q345 := eq_true q345
                have p346 : 0 ≤ ((rd x9_2 x10_1) : Int) := of_decide_eq_true (by first | (with_reducible assumption) | assumption)
                have q346 : (rd x9_2 x10_1) < (l0.length : Int) := of_decide_eq_true (by first | (with_reducible assumption) | assumption)
                obtain ⟨ad346, A346_0, c346_0, e346, hx346_0, hl346_0, hi346_0⟩ := at_L2 HR0.out (rd x9_2 x10_1) p346 q346
                cases e346
                replace hx346_0 := (HB.out.cell (World.block_lt_of_cell? w _ hx346_0)).trans hx346_0
                have HR346_0 := Aside0.mk hi346_0
                have HC346_0 := Aside0.mk hl346_0
                clear hi346_0 hl346_0
                replace p346 := eq_true p346
                replace q346 := eq_true q346
                have p347 : 0 ≤ (x10_1 : Int) := of_decide_eq_true (by first | (with_reducible assumption) | assumption)
                have q347 : x10_1 < (x9_2.length : Int) := of_decide_eq_true (by first | (with_reducible assumption) | assumption)
                obtain ⟨ad347, e347, hx347_0⟩ := Kd.at_int (Kd.R_reads' HO_9.out).2.2 x10_1 p347 q347
                obtain rfl : ad345 = ad347 := (by injection e347)
                replace p347 := eq_true p347
                replace q347 := eq_true q347
                have p348 : 0 ≤ ((rd x9_2 x10_1) : Int) := of_decide_eq_true (by first | (with_reducible assumption) | assumption)
                have q348 : (rd x9_2 x10_1) < (l0.length : Int) := of_decide_eq_true (by first | (with_reducible assumption) | assumption)
                obtain ⟨ad348, A348_0, c348_0, e348, hx348_0, hl348_0, hi348_0⟩ := at_L2 HR0.out (rd x9_2 x10_1) p348 q348
                obtain rfl : ad346 = ad348 := (by injection e348)
                replace hx348_0 := (HB.out.cell (World.block_lt_of_cell? w _ hx348_0)).trans hx348_0
                have HR348_0 := Aside0.mk hi348_0
                have HC348_0 := Aside0.mk hl348_0
                clear hi348_0 hl348_0
                replace p348 := eq_true p348
                replace q348 := eq_true q348
                have ea_ := Option.some.inj (hx346_0.symm.trans hx348_0)
                injection ea_ with ea_ en_ ec_
                subst ea_
                subst ec_
                clear en_
                have p349 : 0 ≤ (x11_2 : Int) := of_decide_eq_true (by first | (with_reducible assumption) | assumption)
                have q349 : x11_2 < ((rd_L2 l0 (rd x9_2 x10_1)).length : Int) := of_decide_eq_true (by first | (with_reducible assumption) | assumption)
                obtain ⟨ad349, e349, hx349_0⟩ := Kd.at_int HR348_0.out x11_2 p349 q349
                cases e349
                replace hx349_0 := (HB.out.cell (World.block_lt_of_cell? w _ hx349_0)).trans hx349_0
                replace p349 := eq_true p349
                replace q349 := eq_true q349
                go_wp2_with (first | ((with_reducible refine gate_callee (f := 13) rfl ?_); refine goesL_ (some 51) rfl rfl Try.func13 (by kernel_rfl) rfl #[.slice A1 l1.length c1, .int .i64 (rd (rd_L2 l0 (rd x9_2 x10_1)) x11_2)] rfl (by (try simp only [List.map_toArray, List.map_cons, List.map_nil]); first | done | rfl | (simp only [List.length_drop, List.length_take]; rfl)) ?_; (with_reducible refine (balustradebase_HasInt.calls k2 _ _ l1 (rd (rd_L2 l0 (rd x9_2 x10_1)) x11_2) false _ ?side1 ?side2 A19.out).mono ?_); (case side1 => repeat (first | exact (Kd.C_below HR1.out HB.out) | (with_reducible refine Kd.C_alloc ?_ _) | (with_reducible refine Kd.C_drewN ?_ _) | (with_reducible refine Kd.C_drew ?_))); (case side2 => exact HC1.out); rintro e w' ⟨rfl, ⟨nd, rfl⟩⟩; refine ⟨_, rfl, ?_⟩) | (go_at_call 13; (with_reducible refine (balustradebase_HasInt.calls k2 _ _ x9_2 (rd (rd_L2 l0 (rd x9_2 x10_1)) x11_2) true _ ?side1 ?side2 A22.out).mono ?_); (case side1 => repeat (first | exact (Kd.R_reads' HO_9.out).2.2 | (with_reducible refine Kd.C_alloc ?_ _) | (with_reducible refine Kd.C_drewN ?_ _) | (with_reducible refine Kd.C_drew ?_))); (case side2 => exact (Kd.R_reads' HO_9.out).2.1); rintro e w' ⟨rfl, ⟨nd, rfl⟩⟩))
                go_roundg k2
                case measure => have := HK1.out; have := HK2.out; omega
                case rel => exact ⟨(x9_2), (wrap64 (x11_2 + 1)), (by first | rfl | (simp; done) | (simp [*]; done)), H', ⟨by have := HK1.out; have := HK2.out; omega⟩, ⟨by (with_reducible repeat (first | apply Kd.R_alloc | apply Kd.R_drewN | apply Kd.R_drew)); exact HO_9.out⟩, ⟨by repeat (first | (with_reducible first | exact HB.out | apply below_alloc | apply pw_below_drewN | apply below_drew1) | exact HB.out)⟩⟩
               ·replace c23 := Bool.eq_false_iff.mpr c23
                subst c23
                have H1 : (if x9_2.length < 17592186044416 then (balustraderef29_free.l1 k2 l0 l1 a3 (x9_2 ++ [rd (rd_L2 l0 (rd x9_2 x10_1)) x11_2]) x10_1 (wrap64 (x11_2 + 1))) else (none)) = some r := by rw [if_neg (show ¬ (false = true) by decide)] at H; exact H
                clear H
                have H := H1
                clear H1
                by_cases c25 : x9_2.length < 17592186044416
                ·rw [if_pos c25] at H
                 have LMc25 := Aside0.mk c25
                 clear c25
                 obtain ⟨y352, hy352⟩ : ∃ y_ : List Int, y_ = (x9_2 ++ [rd (rd_L2 l0 (rd x9_2 x10_1)) x11_2]) := ⟨_, rfl⟩
                 replace H : (balustraderef29_free.l1 k2 l0 l1 a3 y352 x10_1 (wrap64 (x11_2 + 1))) = some r := by first | (rw [hy352]; with_reducible exact H) | (have H2_ := (Option.bind_some _ _).symm.trans H; rw [hy352]; with_reducible exact H2_) | (have H2_ := (Option.bind_some _ _).symm.trans H; with_reducible exact H2_) | with_reducible exact H | (rw [hy352]; exact H) | exact H
                 have Ny352 := Aside0.mk hy352
                 clear hy352
                 have H' := Aside0.mk H
                 clear H
                 obtain ⟨Ao26, co26, eo26⟩ := Kd.R_slice HO_9.out
                 subst eo26
                 have p345 : 0 ≤ (x10_1 : Int) := of_decide_eq_true (by first | (with_reducible assumption) | assumption)
                 have q345 : x10_1 < (x9_2.length : Int) := of_decide_eq_true (by first | (with_reducible assumption) | assumption)
                 obtain ⟨ad345, e345, hx345_0⟩ := Kd.at_int (Kd.R_reads' HO_9.out).2.2 x10_1 p345 q345
                 cases e345
                 replace p345 := eq_true p345
                 replace q345 := eq_true q345
                 have p346 : 0 ≤ ((rd x9_2 x10_1) : Int) := of_decide_eq_true (by first | (with_reducible assumption) | assumption)
                 have q346 : (rd x9_2 x10_1) < (l0.length : Int) := of_decide_eq_true (by first | (with_reducible assumption) | assumption)
                 obtain ⟨ad346, A346_0, c346_0, e346, hx346_0, hl346_0, hi346_0⟩ := at_L2 HR0.out (rd x9_2 x10_1) p346 q346
                 cases e346
                 replace hx346_0 := (HB.out.cell (World.block_lt_of_cell? w _ hx346_0)).trans hx346_0
                 have HR346_0 := Aside0.mk hi346_0
                 have HC346_0 := Aside0.mk hl346_0
                 clear hi346_0 hl346_0
                 replace p346 := eq_true p346
                 replace q346 := eq_true q346
                 have p347 : 0 ≤ (x10_1 : Int) := of_decide_eq_true (by first | (with_reducible assumption) | assumption)
                 have q347 : x10_1 < (x9_2.length : Int) := of_decide_eq_true (by first | (with_reducible assumption) | assumption)
                 obtain ⟨ad347, e347, hx347_0⟩ := Kd.at_int (Kd.R_reads' HO_9.out).2.2 x10_1 p347 q347
                 obtain rfl : ad345 = ad347 := (by injection e347)
                 replace p347 := eq_true p347
                 replace q347 := eq_true q347
                 have p348 : 0 ≤ ((rd x9_2 x10_1) : Int) := of_decide_eq_true (by first | (with_reducible assumption) | assumption)
                 have q348 : (rd x9_2 x10_1) < (l0.length : Int) := of_decide_eq_true (by first | (with_reducible assumption) | assumption)
                 obtain ⟨ad348, A348_0, c348_0, e348, hx348_0, hl348_0, hi348_0⟩ := at_L2 HR0.out (rd x9_2 x10_1) p348 q348
                 obtain rfl : ad346 = ad348 := (by injection e348)
                 replace hx348_0 := (HB.out.cell (World.block_lt_of_cell? w _ hx348_0)).trans hx348_0
                 have HR348_0 := Aside0.mk hi348_0
                 have HC348_0 := Aside0.mk hl348_0
                 clear hi348_0 hl348_0
                 replace p348 := eq_true p348
                 replace q348 := eq_true q348
                 have ea_ := Option.some.inj (hx346_0.symm.trans hx348_0)
                 injection ea_ with ea_ en_ ec_
                 subst ea_
                 subst ec_
                 clear en_
                 have p349 : 0 ≤ (x11_2 : Int) := of_decide_eq_true (by first | (with_reducible assumption) | assumption)
                 have q349 : x11_2 < ((rd_L2 l0 (rd x9_2 x10_1)).length : Int) := of_decide_eq_true (by first | (with_reducible assumption) | assumption)
                 obtain ⟨ad349, e349, hx349_0⟩ := Kd.at_int HR348_0.out x11_2 p349 q349
                 cases e349
                 replace hx349_0 := (HB.out.cell (World.block_lt_of_cell? w _ hx349_0)).trans hx349_0
                 replace p349 := eq_true p349
                 replace q349 := eq_true q349
                 go_wp2_with (first | ((with_reducible refine gate_callee (f := 13) rfl ?_); refine goesL_ (some 51) rfl rfl Try.func13 (by kernel_rfl) rfl #[.slice A1 l1.length c1, .int .i64 (rd (rd_L2 l0 (rd x9_2 x10_1)) x11_2)] rfl (by (try simp only [List.map_toArray, List.map_cons, List.map_nil]); first | done | rfl | (simp only [List.length_drop, List.length_take]; rfl)) ?_; (with_reducible refine (balustradebase_HasInt.calls k2 _ _ l1 (rd (rd_L2 l0 (rd x9_2 x10_1)) x11_2) false _ ?side1 ?side2 A19.out).mono ?_); (case side1 => repeat (first | exact (Kd.C_below HR1.out HB.out) | (with_reducible refine Kd.C_alloc ?_ _) | (with_reducible refine Kd.C_drewN ?_ _) | (with_reducible refine Kd.C_drew ?_))); (case side2 => exact HC1.out); rintro e w' ⟨rfl, ⟨nd, rfl⟩⟩; refine ⟨_, rfl, ?_⟩) | (go_at_call 13; (with_reducible refine (balustradebase_HasInt.calls k2 _ _ x9_2 (rd (rd_L2 l0 (rd x9_2 x10_1)) x11_2) false _ ?side1 ?side2 A22.out).mono ?_); (case side1 => repeat (first | exact (Kd.R_reads' HO_9.out).2.2 | (with_reducible refine Kd.C_alloc ?_ _) | (with_reducible refine Kd.C_drewN ?_ _) | (with_reducible refine Kd.C_drew ?_))); (case side2 => exact (Kd.R_reads' HO_9.out).2.1); rintro e w' ⟨rfl, ⟨nd, rfl⟩⟩) | ((with_reducible refine gate_builtin (b := .append) (xs := #[.tmp 59, .tmp 61]) rfl ?_); at_builtin; refine Kd.R_append (Kd.int .i64) (w0 := w) w.heap.size rfl (.tmp 59) (.tmp 61) 23 3 (.int .i64 0) 8 rfl Try.underlying23 info3 rfl (by decide) (by omega) (.slice (some ad345) x9_2.length co26) x9_2 (rd (rd_L2 l0 (rd x9_2 x10_1)) x11_2) [.int .i64 (rd (rd_L2 l0 (rd x9_2 x10_1)) x11_2)] (fun _ => True) (fun _ => False) rfl rfl ?aP (fun _ hk => hk.elim) ?aF ?aO ?aB ?aS ?aL ?_; (case aP => exact rfl); (case aB => exact (by repeat (first | (with_reducible first | exact HB.out | apply below_alloc | apply pw_below_drewN | apply below_drew1) | exact HB.out))); (case aF => exact (fun _ _ => trivial)); (case aO => exact (by (with_reducible repeat (first | apply Kd.R_alloc | apply Kd.R_drewN | apply Kd.R_drew)); exact HO_9.out)); (case aS => exact (below_size (by repeat (first | (with_reducible first | exact HB.out | apply below_alloc | apply pw_below_drewN | apply below_drew1) | exact HB.out)))); (case aL => have := LMc25.out; omega); intro v353 w27 ho hb hg hat; rw [← Ny352.out] at ho; have n0_ := Aside0.mk (hb); have n1_ := Aside0.mk (ho); clear HB; clear HO_9; have HB := n0_; have HO354 := n1_; clear n0_ n1_; clear ho hb hg hat))
                 go_roundg k2
                 case measure => have := HK1.out; have := HK2.out; omega
                 case rel => exact ⟨(y352), (wrap64 (x11_2 + 1)), (by first | rfl | (simp; done) | (simp [*]; done)), H', ⟨by have := HK1.out; have := HK2.out; omega⟩, ⟨by (with_reducible repeat (first | apply Kd.R_alloc | apply Kd.R_drewN | apply Kd.R_drew)); exact HO354.out⟩, ⟨by repeat (first | (with_reducible first | exact HB.out | apply below_alloc | apply pw_below_drewN | apply below_drew1) | exact HB.out)⟩⟩
                ·rw [if_neg c25] at H
                 exact absurd H (by simp)
            ·rw [if_neg c16] at H
             exact absurd H (by simp)
           ·rw [if_neg c15] at H
            have c15b0 : decide (x11_2 < ((rd_L2 l0 (rd x9_2 x10_1)).length : Int)) = false := decide_eq_false c15
            clear c15
            have H' := Aside0.mk H
            clear H
            obtain ⟨Ao28, co28, eo28⟩ := Kd.R_slice HO_9.out
            subst eo28
            have p345 : 0 ≤ (x10_1 : Int) := of_decide_eq_true (by first | (with_reducible assumption) | assumption)
            have q345 : x10_1 < (x9_2.length : Int) := of_decide_eq_true (by first | (with_reducible assumption) | assumption)
            obtain ⟨ad345, e345, hx345_0⟩ := Kd.at_int (Kd.R_reads' HO_9.out).2.2 x10_1 p345 q345
            cases e345
            replace p345 := eq_true p345
            replace q345 := eq_true q345
            have p346 : 0 ≤ ((rd x9_2 x10_1) : Int) := of_decide_eq_true (by first | (with_reducible assumption) | assumption)
            have q346 : (rd x9_2 x10_1) < (l0.length : Int) := of_decide_eq_true (by first | (with_reducible assumption) | assumption)
            obtain ⟨ad346, A346_0, c346_0, e346, hx346_0, hl346_0, hi346_0⟩ := at_L2 HR0.out (rd x9_2 x10_1) p346 q346
            cases e346
            replace hx346_0 := (HB.out.cell (World.block_lt_of_cell? w _ hx346_0)).trans hx346_0
            have HR346_0 := Aside0.mk hi346_0
            have HC346_0 := Aside0.mk hl346_0
            clear hi346_0 hl346_0
            replace p346 := eq_true p346
            replace q346 := eq_true q346
            go_wp2
            go_roundg k2
            case measure => have := HK1.out; have := HK2.out; omega
            case rel => exact ⟨(x9_2), (wrap64 (x10_1 + 1)), (by first | rfl | (simp; done) | (simp [*]; done)), H', ⟨by have := HK1.out; have := HK2.out; omega⟩, ⟨by (with_reducible repeat (first | apply Kd.R_alloc | apply Kd.R_drewN | apply Kd.R_drew)); exact HO_9.out⟩, ⟨by repeat (first | (with_reducible first | exact HB.out | apply below_alloc | apply pw_below_drewN | apply below_drew1) | exact HB.out)⟩⟩
          ·rw [if_neg c14] at H
           exact absurd H (by simp)
         ·rw [if_neg c13] at H
          exact absurd H (by simp)
        ·rw [if_neg c12] at H
         exact absurd H (by simp)
       ·rw [if_neg c11] at H
        exact absurd H (by simp)
    ·rw [if_neg c9] at H
     have c9b0 : decide (x10_1 < (x9_1.length : Int)) = false := decide_eq_false c9
     clear c9
     obtain rfl := Option.some.inj H
     obtain ⟨Ao29, co29, eo29⟩ := Kd.R_slice HO_9.out
     subst eo29
     go_wp2
     go_ret
     exact ⟨by first | rfl | (simp [errW_none, errW_some] <;> rfl) | (simp [*, errW_none, errW_some] <;> rfl), by repeat (first | (with_reducible first | exact HB.out | apply below_alloc | apply pw_below_drewN | apply below_drew1) | exact HB.out)⟩
end Go.Proofs.Ytjibojmbhbaneaa.PRm
