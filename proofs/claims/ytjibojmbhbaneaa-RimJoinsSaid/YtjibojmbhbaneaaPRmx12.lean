-- Written by a program of this session (wip/bprint.py), out of the translation, by way of the kit's print; hand-proved functions come from modules of their own.
import Derived.Test.YtjibojmbhbaneaaPRmx0
import Derived.Test.YtjibojmbhbaneaaPRmx6
import Derived.Test.YtjibojmbhbaneaaPRmx9
import Derived.Test.YtjibojmbhbaneaaPRmx11
namespace Go.Proofs.Ytjibojmbhbaneaa.PRm
open Go.RowKit Go.Proofs.YtjibojmbhbaneaaW.PrintWords Go.Proofs.YtjibojmbhbaneaaW.PrintLast Go.Proofs.YtjibojmbhbaneaaW.PrintMore
attribute [local go_sem] max2_int min2_int max_two min_two max_three min_three max_four min_four   -- for this text's walks alone
set_option linter.unusedVariables false
set_option linter.unusedSimpArgs false
/-! ### balustraderef29_joins: function 33 -/
mutual
def balustraderef29_joins.l0 : Nat → List (List Int) → List Int → Int → Int → Int → Int → Option (Bool)
 | 0, _, _, _, _, _, _ => none
 | k + 1, x0, x1, x2, x3, x9, x10 => if 0 ≤ x9 then (if x9 < (x0.length : Int) then (if x10 < ((rd_L2 x0 x9).length : Int) then (if 0 ≤ x10 then (if (rd (rd_L2 x0 x9) x10) = x3 then ((balustraderef29_free.f k x0 x1 x2 x3).bind fun t359 => (if t359 = true then (some true) else (balustraderef29_joins.l0 k x0 x1 x2 x3 x9 (wrap64 (x10 + 1))))) else ((balustradebase_HasInt.f k x1 (rd (rd_L2 x0 x9) x10)).bind fun t360 => (if t360 = true then (balustraderef29_joins.l0 k x0 x1 x2 x3 x9 (wrap64 (x10 + 1))) else ((balustradebase_Ints.f x1).bind fun t361 => (if t361.length < 17592186044416 then ((balustraderef29_joins.f k x0 (t361 ++ [rd (rd_L2 x0 x9) x10]) x2 x3).bind fun t367 => (if t367 = true then (some true) else (balustraderef29_joins.l0 k x0 x1 x2 x3 x9 (wrap64 (x10 + 1))))) else (none)))))) else (none)) else (some false)) else (none)) else (none)
def balustraderef29_joins.f : Nat → List (List Int) → List Int → Int → Int → Option (Bool)
 | 0, _, _, _, _ => none
 | k + 1, l0, l1, a2, a3 => if 0 ≤ (wrap64 ((l1.length : Int) - 1)) then (if (wrap64 ((l1.length : Int) - 1)) < (l1.length : Int) then (balustraderef29_joins.l0 k l0 l1 a2 a3 (rd l1 (wrap64 ((l1.length : Int) - 1))) 0) else (none)) else (none)
end
set_option maxHeartbeats 8000000 in
set_option maxRecDepth 100000 in
theorem balustraderef29_joins.calls (k : Nat) : ∀ (A0 : Option Addr) (c0 : Nat) (l0 : List (List Int)) (A1 : Option Addr) (c1 : Nat) (l1 : List Int) (a2 : Int) (a3 : Int) (r : Bool) (w : World) (hr0 : Kd.C (Kd.slice 3 (Kd.int .i64)) w A0 l0.length l0) (hc0 : l0.length ≤ c0) (hr1 : Kd.C (Kd.int .i64) w A1 l1.length l1) (hc1 : l1.length ≤ c1) (h : balustraderef29_joins.f k l0 l1 a2 a3 = some r),
  Calls Try.prog 33 #[.slice A0 l0.length c0, .slice A1 l1.length c1, .int .i64 a2, .int .i64 a3] w fun e w' => e = .returned (.bool r) ∧ Below w.heap.size w w' := by
 induction k using Nat.strongRecOn with
 | _ k ih =>
 intro A0 c0 l0 A1 c1 l1 a2 a3 r w hr0 hc0 hr1 hc1 h
 cases k with
 | zero => exact absurd h (by simp [balustraderef29_joins.f])
 | succ k =>
 simp only [balustraderef29_joins.f] at h
 have HR0 := Aside0.mk hr0
 have HC0 := Aside0.mk hc0
 clear hr0 hc0
 have HR1 := Aside0.mk hr1
 have HC1 := Aside0.mk hc1
 clear hr1 hc1
 have HB := Aside0.mk (Below.refl w.heap.size w)
 have H : (if 0 ≤ (wrap64 ((l1.length : Int) - 1)) then (if (wrap64 ((l1.length : Int) - 1)) < (l1.length : Int) then (balustraderef29_joins.l0 k l0 l1 a2 a3 (rd l1 (wrap64 ((l1.length : Int) - 1))) 0) else (none)) else (none)) = some r := h
 clear h
 obtain ⟨ji5, hji5⟩ : ∃ j_ : Int, (wrap64 ((l1.length : Int) - 1)) = j_ := ⟨_, rfl⟩
 replace H : (if 0 ≤ (ji5) then (if (ji5) < (l1.length : Int) then (balustraderef29_joins.l0 k l0 l1 a2 a3 (rd l1 (ji5)) 0) else (none)) else (none)) = some r := by first | (rw [hji5] at H; exact H) | (simp only [hji5] at H ⊢; exact H)
 have hji5w : (IntKind.i64.wrap ((l1.length : Int) - 1)) = ji5 := (i64_w _).trans hji5
 by_cases c6 : 0 ≤ (ji5)
 ·rw [if_pos c6] at H
  have c6b0 : decide (0 ≤ (ji5)) = true := decide_eq_true c6
  clear c6
  by_cases c7 : (ji5) < (l1.length : Int)
  ·rw [if_pos c7] at H
   have c7b0 : decide ((ji5) < (l1.length : Int)) = true := decide_eq_true c7
   clear c7
   have H' := Aside0.mk H
   clear H
   have p355 : 0 ≤ ((ji5) : Int) := of_decide_eq_true (by first | (with_reducible assumption) | assumption)
   have q355 : (ji5) < (l1.length : Int) := of_decide_eq_true (by first | (with_reducible assumption) | assumption)
   obtain ⟨ad355, e355, hx355_0⟩ := Kd.at_int HR1.out (ji5) p355 q355
   cases e355
   replace p355 := eq_true p355
   replace q355 := eq_true q355
   go_enter Try.func33, Try.ntmps33
   go_wp2
   go_loopg [10] k (fun kq v10 w' => ∃ (x10_1 : Int), v10 = .int .i64 x10_1 ∧ Aside0 (balustraderef29_joins.l0 kq l0 l1 a2 a3 (rd l1 (ji5)) x10_1 = some r) ∧ Aside0 (kq ≤ k) ∧ Aside0 (Below w.heap.size w w'))
   case atStart => exact ⟨(0), (by first | rfl | (simp; done) | (simp [*]; done)), H', ⟨Nat.le_refl _⟩, ⟨by repeat (first | (with_reducible first | exact HB.out | apply below_alloc | apply pw_below_drewN | apply below_drew1) | exact HB.out)⟩⟩
   case round =>
    clear H'
    try clear c1
    try clear p2
    try clear c3
    try clear p3
    try clear q3
    try clear hx3
    try clear c6
    try clear c6b0
    try clear p6
    try clear c7
    try clear c7b0
    try clear hx355_0
    try clear p355
    try clear q355
    obtain ⟨x10_1, rfl, HA, HK1, HB⟩ := hrel
    cases gk with
    | zero => exact absurd HA.out (by simp [balustraderef29_joins.l0])
    | succ k1 =>
     have H := HA.out
     clear HA
     simp only [balustraderef29_joins.l0] at H
     by_cases c8 : 0 ≤ (rd l1 (ji5))
     ·rw [if_pos c8] at H
      have c8b0 : decide (0 ≤ (rd l1 (ji5))) = true := decide_eq_true c8
      clear c8
      by_cases c9 : (rd l1 (ji5)) < (l0.length : Int)
      ·rw [if_pos c9] at H
       have c9b0 : decide ((rd l1 (ji5)) < (l0.length : Int)) = true := decide_eq_true c9
       clear c9
       by_cases c10 : x10_1 < ((rd_L2 l0 (rd l1 (ji5))).length : Int)
       ·rw [if_pos c10] at H
        have c10b0 : decide (x10_1 < ((rd_L2 l0 (rd l1 (ji5))).length : Int)) = true := decide_eq_true c10
        clear c10
        by_cases c11 : 0 ≤ x10_1
        ·rw [if_pos c11] at H
         have c11b0 : decide (0 ≤ x10_1) = true := decide_eq_true c11
         clear c11
         by_cases c12 : (rd (rd_L2 l0 (rd l1 (ji5))) x10_1) = a3
         ·rw [if_pos c12] at H
          have c12b0 : ((rd (rd_L2 l0 (rd l1 (ji5))) x10_1) == a3) = true := beq_iff_eq.mpr c12
          have c12b1 : ((rd (rd_L2 l0 (rd l1 (ji5))) x10_1) != a3) = false := bne_eq_false_iff_eq.mpr c12
          clear c12
          replace H := Option.bind_eq_some_iff.mp H
          obtain ⟨t359, A130, H⟩ := H
          replace H : (if t359 = true then (some true) else (balustraderef29_joins.l0 k1 l0 l1 a2 a3 (rd l1 (ji5)) (wrap64 (x10_1 + 1)))) = some r := H
          have A13 := Aside0.mk A130
          clear A130
          by_cases c14 : t359 = true
          ·subst c14
           have H1 : (some true) = some r := by rw [if_pos rfl] at H; exact H
           clear H
           have H := H1
           clear H1
           obtain rfl := Option.some.inj H
           have p356 : 0 ≤ ((rd l1 (ji5)) : Int) := of_decide_eq_true (by first | (with_reducible assumption) | assumption)
           have q356 : (rd l1 (ji5)) < (l0.length : Int) := of_decide_eq_true (by first | (with_reducible assumption) | assumption)
           obtain ⟨ad356, A356_0, c356_0, e356, hx356_0, hl356_0, hi356_0⟩ := at_L2 HR0.out (rd l1 (ji5)) p356 q356
           cases e356
           replace hx356_0 := (HB.out.cell (World.block_lt_of_cell? w _ hx356_0)).trans hx356_0
           have HR356_0 := Aside0.mk hi356_0
           have HC356_0 := Aside0.mk hl356_0
           clear hi356_0 hl356_0
           replace p356 := eq_true p356
           replace q356 := eq_true q356
           have p357 : 0 ≤ ((rd l1 (ji5)) : Int) := of_decide_eq_true (by first | (with_reducible assumption) | assumption)
           have q357 : (rd l1 (ji5)) < (l0.length : Int) := of_decide_eq_true (by first | (with_reducible assumption) | assumption)
           obtain ⟨ad357, A357_0, c357_0, e357, hx357_0, hl357_0, hi357_0⟩ := at_L2 HR0.out (rd l1 (ji5)) p357 q357
           obtain rfl : ad356 = ad357 := (by injection e357)
           replace hx357_0 := (HB.out.cell (World.block_lt_of_cell? w _ hx357_0)).trans hx357_0
           have HR357_0 := Aside0.mk hi357_0
           have HC357_0 := Aside0.mk hl357_0
           clear hi357_0 hl357_0
           replace p357 := eq_true p357
           replace q357 := eq_true q357
           have ea_ := Option.some.inj (hx356_0.symm.trans hx357_0)
           injection ea_ with ea_ en_ ec_
           subst ea_
           subst ec_
           clear en_
           have p358 : 0 ≤ (x10_1 : Int) := of_decide_eq_true (by first | (with_reducible assumption) | assumption)
           have q358 : x10_1 < ((rd_L2 l0 (rd l1 (ji5))).length : Int) := of_decide_eq_true (by first | (with_reducible assumption) | assumption)
           obtain ⟨ad358, e358, hx358_0⟩ := Kd.at_int HR357_0.out x10_1 p358 q358
           cases e358
           replace hx358_0 := (HB.out.cell (World.block_lt_of_cell? w _ hx358_0)).trans hx358_0
           replace p358 := eq_true p358
           replace q358 := eq_true q358
           go_wp2_with (first | ((with_reducible refine gate_callee (f := 53) rfl ?_); refine goesL_ (some 41) rfl rfl Try.func53 (by kernel_rfl) rfl #[.slice (some ad356) l0.length c0, .slice (some ad355) l1.length c1, .int .i64 a2, .int .i64 a3] rfl (by (try simp only [List.map_toArray, List.map_cons, List.map_nil]); first | done | rfl | (simp only [List.length_drop, List.length_take]; rfl)) ?_; (with_reducible refine (balustraderef29_free.calls k1 _ _ l0 _ _ l1 a2 a3 true _ ?side1 ?side2 ?side3 ?side4 A13.out).mono ?_); (case side1 => repeat (first | exact (Kd.C_below HR0.out HB.out) | (with_reducible refine Kd.C_alloc ?_ _) | (with_reducible refine Kd.C_drewN ?_ _) | (with_reducible refine Kd.C_drew ?_))); (case side2 => exact HC0.out); (case side3 => repeat (first | exact (Kd.C_below HR1.out HB.out) | (with_reducible refine Kd.C_alloc ?_ _) | (with_reducible refine Kd.C_drewN ?_ _) | (with_reducible refine Kd.C_drew ?_))); (case side4 => exact HC1.out); rintro e w15 ⟨rfl, hb⟩; refine ⟨_, rfl, ?_⟩; have n0_ := Aside0.mk (below_step (by repeat (first | (with_reducible first | exact HB.out | apply below_alloc | apply pw_below_drewN | apply below_drew1) | exact HB.out)) hb); clear HB; have HB := n0_; clear n0_; (try clear hb); (try clear hb2); (try clear hk); (try clear hi)))
           go_ret
           exact ⟨by first | rfl | (simp [errW_none, errW_some] <;> rfl) | (simp only [← hji5]; first | rfl | (simp [errW_none, errW_some] <;> rfl)) | (simp [*, errW_none, errW_some] <;> rfl), by repeat (first | (with_reducible first | exact HB.out | apply below_alloc | apply pw_below_drewN | apply below_drew1) | exact HB.out)⟩
          ·replace c14 := Bool.eq_false_iff.mpr c14
           subst c14
           have H1 : (balustraderef29_joins.l0 k1 l0 l1 a2 a3 (rd l1 (ji5)) (wrap64 (x10_1 + 1))) = some r := by rw [if_neg (show ¬ (false = true) by decide)] at H; exact H
           clear H
           have H := H1
           clear H1
           have H' := Aside0.mk H
           clear H
           have p356 : 0 ≤ ((rd l1 (ji5)) : Int) := of_decide_eq_true (by first | (with_reducible assumption) | assumption)
           have q356 : (rd l1 (ji5)) < (l0.length : Int) := of_decide_eq_true (by first | (with_reducible assumption) | assumption)
           obtain ⟨ad356, A356_0, c356_0, e356, hx356_0, hl356_0, hi356_0⟩ := at_L2 HR0.out (rd l1 (ji5)) p356 q356
           cases e356
           replace hx356_0 := (HB.out.cell (World.block_lt_of_cell? w _ hx356_0)).trans hx356_0
           have HR356_0 := Aside0.mk hi356_0
           have HC356_0 := Aside0.mk hl356_0
           clear hi356_0 hl356_0
           replace p356 := eq_true p356
           replace q356 := eq_true q356
           have p357 : 0 ≤ ((rd l1 (ji5)) : Int) := of_decide_eq_true (by first | (with_reducible assumption) | assumption)
           have q357 : (rd l1 (ji5)) < (l0.length : Int) := of_decide_eq_true (by first | (with_reducible assumption) | assumption)
           obtain ⟨ad357, A357_0, c357_0, e357, hx357_0, hl357_0, hi357_0⟩ := at_L2 HR0.out (rd l1 (ji5)) p357 q357
           obtain rfl : ad356 = ad357 := (by injection e357)
           replace hx357_0 := (HB.out.cell (World.block_lt_of_cell? w _ hx357_0)).trans hx357_0
           have HR357_0 := Aside0.mk hi357_0
           have HC357_0 := Aside0.mk hl357_0
           clear hi357_0 hl357_0
           replace p357 := eq_true p357
           replace q357 := eq_true q357
           have ea_ := Option.some.inj (hx356_0.symm.trans hx357_0)
           injection ea_ with ea_ en_ ec_
           subst ea_
           subst ec_
           clear en_
           have p358 : 0 ≤ (x10_1 : Int) := of_decide_eq_true (by first | (with_reducible assumption) | assumption)
           have q358 : x10_1 < ((rd_L2 l0 (rd l1 (ji5))).length : Int) := of_decide_eq_true (by first | (with_reducible assumption) | assumption)
           obtain ⟨ad358, e358, hx358_0⟩ := Kd.at_int HR357_0.out x10_1 p358 q358
           cases e358
           replace hx358_0 := (HB.out.cell (World.block_lt_of_cell? w _ hx358_0)).trans hx358_0
           replace p358 := eq_true p358
           replace q358 := eq_true q358
           go_wp2_with (first | ((with_reducible refine gate_callee (f := 53) rfl ?_); refine goesL_ (some 41) rfl rfl Try.func53 (by kernel_rfl) rfl #[.slice (some ad356) l0.length c0, .slice (some ad355) l1.length c1, .int .i64 a2, .int .i64 a3] rfl (by (try simp only [List.map_toArray, List.map_cons, List.map_nil]); first | done | rfl | (simp only [List.length_drop, List.length_take]; rfl)) ?_; (with_reducible refine (balustraderef29_free.calls k1 _ _ l0 _ _ l1 a2 a3 false _ ?side1 ?side2 ?side3 ?side4 A13.out).mono ?_); (case side1 => repeat (first | exact (Kd.C_below HR0.out HB.out) | (with_reducible refine Kd.C_alloc ?_ _) | (with_reducible refine Kd.C_drewN ?_ _) | (with_reducible refine Kd.C_drew ?_))); (case side2 => exact HC0.out); (case side3 => repeat (first | exact (Kd.C_below HR1.out HB.out) | (with_reducible refine Kd.C_alloc ?_ _) | (with_reducible refine Kd.C_drewN ?_ _) | (with_reducible refine Kd.C_drew ?_))); (case side4 => exact HC1.out); rintro e w16 ⟨rfl, hb⟩; refine ⟨_, rfl, ?_⟩; have n0_ := Aside0.mk (below_step (by repeat (first | (with_reducible first | exact HB.out | apply below_alloc | apply pw_below_drewN | apply below_drew1) | exact HB.out)) hb); clear HB; have HB := n0_; clear n0_; (try clear hb); (try clear hb2); (try clear hk); (try clear hi)))
           go_roundg k1
           case measure => have := HK1.out; omega
           case rel => exact ⟨(wrap64 (x10_1 + 1)), (by first | rfl | (simp; done) | (simp [*]; done)), H', ⟨by have := HK1.out; omega⟩, ⟨by repeat (first | (with_reducible first | exact HB.out | apply below_alloc | apply pw_below_drewN | apply below_drew1) | exact HB.out)⟩⟩
         ·rw [if_neg c12] at H
          have c12b0 : ((rd (rd_L2 l0 (rd l1 (ji5))) x10_1) == a3) = false := beq_eq_false_iff_ne.mpr c12
          have c12b1 : ((rd (rd_L2 l0 (rd l1 (ji5))) x10_1) != a3) = true := bne_iff_ne.mpr c12
          replace H := Option.bind_eq_some_iff.mp H
          obtain ⟨t360, A170, H⟩ := H
          replace H : (if t360 = true then (balustraderef29_joins.l0 k1 l0 l1 a2 a3 (rd l1 (ji5)) (wrap64 (x10_1 + 1))) else ((balustradebase_Ints.f l1).bind fun t361 => (if t361.length < 17592186044416 then ((balustraderef29_joins.f k1 l0 (t361 ++ [rd (rd_L2 l0 (rd l1 (ji5))) x10_1]) a2 a3).bind fun t367 => (if t367 = true then (some true) else (balustraderef29_joins.l0 k1 l0 l1 a2 a3 (rd l1 (ji5)) (wrap64 (x10_1 + 1))))) else (none)))) = some r := H
          have A17 := Aside0.mk A170
          clear A170
          by_cases c18 : t360 = true
          ·subst c18
           have H1 : (balustraderef29_joins.l0 k1 l0 l1 a2 a3 (rd l1 (ji5)) (wrap64 (x10_1 + 1))) = some r := by rw [if_pos rfl] at H; exact H
           clear H
           have H := H1
           clear H1
           have H' := Aside0.mk H
           clear H
           have p356 : 0 ≤ ((rd l1 (ji5)) : Int) := of_decide_eq_true (by first | (with_reducible assumption) | assumption)
           have q356 : (rd l1 (ji5)) < (l0.length : Int) := of_decide_eq_true (by first | (with_reducible assumption) | assumption)
           obtain ⟨ad356, A356_0, c356_0, e356, hx356_0, hl356_0, hi356_0⟩ := at_L2 HR0.out (rd l1 (ji5)) p356 q356
           cases e356
           replace hx356_0 := (HB.out.cell (World.block_lt_of_cell? w _ hx356_0)).trans hx356_0
           have HR356_0 := Aside0.mk hi356_0
           have HC356_0 := Aside0.mk hl356_0
           clear hi356_0 hl356_0
           replace p356 := eq_true p356
           replace q356 := eq_true q356
           have p357 : 0 ≤ ((rd l1 (ji5)) : Int) := of_decide_eq_true (by first | (with_reducible assumption) | assumption)
           have q357 : (rd l1 (ji5)) < (l0.length : Int) := of_decide_eq_true (by first | (with_reducible assumption) | assumption)
           obtain ⟨ad357, A357_0, c357_0, e357, hx357_0, hl357_0, hi357_0⟩ := at_L2 HR0.out (rd l1 (ji5)) p357 q357
           obtain rfl : ad356 = ad357 := (by injection e357)
           replace hx357_0 := (HB.out.cell (World.block_lt_of_cell? w _ hx357_0)).trans hx357_0
           have HR357_0 := Aside0.mk hi357_0
           have HC357_0 := Aside0.mk hl357_0
           clear hi357_0 hl357_0
           replace p357 := eq_true p357
           replace q357 := eq_true q357
           have ea_ := Option.some.inj (hx356_0.symm.trans hx357_0)
           injection ea_ with ea_ en_ ec_
           subst ea_
           subst ec_
           clear en_
           have p358 : 0 ≤ (x10_1 : Int) := of_decide_eq_true (by first | (with_reducible assumption) | assumption)
           have q358 : x10_1 < ((rd_L2 l0 (rd l1 (ji5))).length : Int) := of_decide_eq_true (by first | (with_reducible assumption) | assumption)
           obtain ⟨ad358, e358, hx358_0⟩ := Kd.at_int HR357_0.out x10_1 p358 q358
           cases e358
           replace hx358_0 := (HB.out.cell (World.block_lt_of_cell? w _ hx358_0)).trans hx358_0
           replace p358 := eq_true p358
           replace q358 := eq_true q358
           go_wp2_with (first | ((with_reducible refine gate_callee (f := 13) rfl ?_); refine goesL_ (some 44) rfl rfl Try.func13 (by kernel_rfl) rfl #[.slice (some ad355) l1.length c1, .int .i64 (rd (rd_L2 l0 (rd l1 (ji5))) x10_1)] rfl (by (try simp only [List.map_toArray, List.map_cons, List.map_nil]); first | done | (simp only [hji5]; rfl) | rfl | (simp only [List.length_drop, List.length_take]; rfl)) ?_; (with_reducible refine (balustradebase_HasInt.calls k1 _ _ l1 (rd (rd_L2 l0 (rd l1 (ji5))) x10_1) true _ ?side1 ?side2 A17.out).mono ?_); (case side1 => repeat (first | exact (Kd.C_below HR1.out HB.out) | (with_reducible refine Kd.C_alloc ?_ _) | (with_reducible refine Kd.C_drewN ?_ _) | (with_reducible refine Kd.C_drew ?_))); (case side2 => exact HC1.out); rintro e w' ⟨rfl, ⟨nd, rfl⟩⟩; refine ⟨_, rfl, ?_⟩))
           go_roundg k1
           case measure => have := HK1.out; omega
           case rel => exact ⟨(wrap64 (x10_1 + 1)), (by first | rfl | (simp; done) | (simp [*]; done)), H', ⟨by have := HK1.out; omega⟩, ⟨by repeat (first | (with_reducible first | exact HB.out | apply below_alloc | apply pw_below_drewN | apply below_drew1) | exact HB.out)⟩⟩
          ·replace c18 := Bool.eq_false_iff.mpr c18
           subst c18
           have H1 : ((balustradebase_Ints.f l1).bind fun t361 => (if t361.length < 17592186044416 then ((balustraderef29_joins.f k1 l0 (t361 ++ [rd (rd_L2 l0 (rd l1 (ji5))) x10_1]) a2 a3).bind fun t367 => (if t367 = true then (some true) else (balustraderef29_joins.l0 k1 l0 l1 a2 a3 (rd l1 (ji5)) (wrap64 (x10_1 + 1))))) else (none))) = some r := by rw [if_neg (show ¬ (false = true) by decide)] at H; exact H
           clear H
           have H := H1
           clear H1
           replace H := Option.bind_eq_some_iff.mp H
           obtain ⟨t361, A190, H⟩ := H
           replace H : (if t361.length < 17592186044416 then ((balustraderef29_joins.f k1 l0 (t361 ++ [rd (rd_L2 l0 (rd l1 (ji5))) x10_1]) a2 a3).bind fun t367 => (if t367 = true then (some true) else (balustraderef29_joins.l0 k1 l0 l1 a2 a3 (rd l1 (ji5)) (wrap64 (x10_1 + 1))))) else (none)) = some r := H
           have A19 := Aside0.mk A190
           clear A190
           by_cases c20 : t361.length < 17592186044416
           ·rw [if_pos c20] at H
            have LMc20 := Aside0.mk c20
            clear c20
            obtain ⟨y364, hy364⟩ : ∃ y_ : List Int, y_ = (t361 ++ [rd (rd_L2 l0 (rd l1 (ji5))) x10_1]) := ⟨_, rfl⟩
            replace H : ((balustraderef29_joins.f k1 l0 y364 a2 a3).bind fun t367 => (if t367 = true then (some true) else (balustraderef29_joins.l0 k1 l0 l1 a2 a3 (rd l1 (ji5)) (wrap64 (x10_1 + 1))))) = some r := by first | (rw [hy364]; with_reducible exact H) | (have H2_ := (Option.bind_some _ _).symm.trans H; rw [hy364]; with_reducible exact H2_) | (have H2_ := (Option.bind_some _ _).symm.trans H; with_reducible exact H2_) | with_reducible exact H | (rw [hy364]; exact H) | exact H
            have Ny364 := Aside0.mk hy364
            clear hy364
            replace H := Option.bind_eq_some_iff.mp H
            obtain ⟨t367, A210, H⟩ := H
            replace H : (if t367 = true then (some true) else (balustraderef29_joins.l0 k1 l0 l1 a2 a3 (rd l1 (ji5)) (wrap64 (x10_1 + 1)))) = some r := H
            have A21 := Aside0.mk A210
            clear A210
            by_cases c22 : t367 = true
            ·subst c22
             have H1 : (some true) = some r := by rw [if_pos rfl] at H; exact H
             clear H
             have H := H1
             clear H1
             obtain rfl := Option.some.inj H
             have p356 : 0 ≤ ((rd l1 (ji5)) : Int) := of_decide_eq_true (by first | (with_reducible assumption) | assumption)
             have q356 : (rd l1 (ji5)) < (l0.length : Int) := of_decide_eq_true (by first | (with_reducible assumption) | assumption)
             obtain ⟨ad356, A356_0, c356_0, e356, hx356_0, hl356_0, hi356_0⟩ := at_L2 HR0.out (rd l1 (ji5)) p356 q356
             cases e356
             replace hx356_0 := (HB.out.cell (World.block_lt_of_cell? w _ hx356_0)).trans hx356_0
             have HR356_0 := Aside0.mk hi356_0
             have HC356_0 := Aside0.mk hl356_0
             clear hi356_0 hl356_0
             replace p356 := eq_true p356
             replace q356 := eq_true q356
             have p357 : 0 ≤ ((rd l1 (ji5)) : Int) := of_decide_eq_true (by first | (with_reducible assumption) | assumption)
             have q357 : (rd l1 (ji5)) < (l0.length : Int) := of_decide_eq_true (by first | (with_reducible assumption) | assumption)
             obtain ⟨ad357, A357_0, c357_0, e357, hx357_0, hl357_0, hi357_0⟩ := at_L2 HR0.out (rd l1 (ji5)) p357 q357
             obtain rfl : ad356 = ad357 := (by injection e357)
             replace hx357_0 := (HB.out.cell (World.block_lt_of_cell? w _ hx357_0)).trans hx357_0
             have HR357_0 := Aside0.mk hi357_0
             have HC357_0 := Aside0.mk hl357_0
             clear hi357_0 hl357_0
             replace p357 := eq_true p357
             replace q357 := eq_true q357
             have ea_ := Option.some.inj (hx356_0.symm.trans hx357_0)
             injection ea_ with ea_ en_ ec_
             subst ea_
             subst ec_
             clear en_
             have p358 : 0 ≤ (x10_1 : Int) := of_decide_eq_true (by first | (with_reducible assumption) | assumption)
             have q358 : x10_1 < ((rd_L2 l0 (rd l1 (ji5))).length : Int) := of_decide_eq_true (by first | (with_reducible assumption) | assumption)
             obtain ⟨ad358, e358, hx358_0⟩ := Kd.at_int HR357_0.out x10_1 p358 q358
             cases e358
             replace hx358_0 := (HB.out.cell (World.block_lt_of_cell? w _ hx358_0)).trans hx358_0
             replace p358 := eq_true p358
             replace q358 := eq_true q358
             go_wp2_with (first | ((with_reducible refine gate_callee (f := 13) rfl ?_); refine goesL_ (some 44) rfl rfl Try.func13 (by kernel_rfl) rfl #[.slice (some ad355) l1.length c1, .int .i64 (rd (rd_L2 l0 (rd l1 (ji5))) x10_1)] rfl (by (try simp only [List.map_toArray, List.map_cons, List.map_nil]); first | done | (simp only [hji5]; rfl) | rfl | (simp only [List.length_drop, List.length_take]; rfl)) ?_; (with_reducible refine (balustradebase_HasInt.calls k1 _ _ l1 (rd (rd_L2 l0 (rd l1 (ji5))) x10_1) false _ ?side1 ?side2 A17.out).mono ?_); (case side1 => repeat (first | exact (Kd.C_below HR1.out HB.out) | (with_reducible refine Kd.C_alloc ?_ _) | (with_reducible refine Kd.C_drewN ?_ _) | (with_reducible refine Kd.C_drew ?_))); (case side2 => exact HC1.out); rintro e w' ⟨rfl, ⟨nd, rfl⟩⟩; refine ⟨_, rfl, ?_⟩) | (go_at_call 28; (with_reducible refine (balustradebase_Ints.calls _ _ l1 t361 _ ?side1 ?side2 A19.out).mono ?_); (case side1 => repeat (first | exact (Kd.C_below HR1.out (by repeat (first | (with_reducible first | exact HB.out | apply below_alloc | apply pw_below_drewN | apply below_drew1) | exact HB.out))) | (with_reducible refine Kd.C_alloc ?_ _) | (with_reducible refine Kd.C_drewN ?_ _) | (with_reducible refine Kd.C_drew ?_))); (case side2 => exact HC1.out); rintro e w23 ⟨v362, rfl, ho0, hb⟩; have n0_ := Aside0.mk (Kd.R_lower ho0 (below_size (by repeat (first | (with_reducible first | exact HB.out | apply below_alloc | apply pw_below_drewN | apply below_drew1) | exact HB.out)))); have n1_ := Aside0.mk (below_step (by repeat (first | (with_reducible first | exact HB.out | apply below_alloc | apply pw_below_drewN | apply below_drew1) | exact HB.out)) hb); clear HB; have HO363 := n0_; have HB := n1_; clear n0_ n1_; (try clear hb); (try clear hb2); (try clear hk); (try clear hi); (try clear ho0)) | ((with_reducible refine gate_builtin (b := .append) (xs := #[.tmp 49, .tmp 51]) rfl ?_); (try (refine gate_guard (by rfl) ?_; dsimp only)); at_builtin; refine Kd.R_append (Kd.int .i64) (w0 := w) w.heap.size rfl (.tmp 49) (.tmp 51) 23 3 (.int .i64 0) 8 rfl Try.underlying23 info3 rfl (by decide) (by omega) v362 t361 (rd (rd_L2 l0 (rd l1 (ji5))) x10_1) [.int .i64 (rd (rd_L2 l0 (rd l1 (ji5))) x10_1)] (fun _ => True) (fun _ => False) rfl rfl ?aP (fun _ hk => hk.elim) ?aF ?aO ?aB ?aS ?aL ?_; (case aP => exact rfl); (case aB => exact (by repeat (first | (with_reducible first | exact HB.out | apply below_alloc | apply pw_below_drewN | apply below_drew1) | exact HB.out))); (case aF => exact (fun _ _ => trivial)); (case aO => exact (by (with_reducible repeat (first | apply Kd.R_alloc | apply Kd.R_drewN | apply Kd.R_drew)); exact HO363.out)); (case aS => exact (below_size (by repeat (first | (with_reducible first | exact HB.out | apply below_alloc | apply pw_below_drewN | apply below_drew1) | exact HB.out)))); (case aL => have := LMc20.out; omega); intro v365 w24 ho hb hg hat; rw [← Ny364.out] at ho; have n0_ := Aside0.mk (hb); have n1_ := Aside0.mk (ho); clear HB; clear HO363; have HB := n0_; have HO366 := n1_; clear n0_ n1_; clear ho hb hg hat; obtain ⟨Ao25, co25, eo25⟩ := Kd.R_slice HO366.out; subst eo25) | (go_at_call 33; (with_reducible refine (ih k1 (by have := HK1.out; omega) _ _ l0 _ _ y364 a2 a3 true _ ?side1 ?side2 ?side3 ?side4 A21.out).mono ?_); (case side1 => repeat (first | exact (Kd.C_below HR0.out HB.out) | (with_reducible refine Kd.C_alloc ?_ _) | (with_reducible refine Kd.C_drewN ?_ _) | (with_reducible refine Kd.C_drew ?_))); (case side2 => exact HC0.out); (case side3 => repeat (first | exact (Kd.R_reads' HO366.out).2.2 | (with_reducible refine Kd.C_alloc ?_ _) | (with_reducible refine Kd.C_drewN ?_ _) | (with_reducible refine Kd.C_drew ?_))); (case side4 => exact (Kd.R_reads' HO366.out).2.1); rintro e w26 ⟨rfl, hb⟩; have n0_ := Aside0.mk (Kd.R_below (by (with_reducible repeat (first | apply Kd.R_alloc | apply Kd.R_drewN | apply Kd.R_drew)); exact HO366.out) hb); have n1_ := Aside0.mk (below_step (by repeat (first | (with_reducible first | exact HB.out | apply below_alloc | apply pw_below_drewN | apply below_drew1) | exact HB.out)) hb); clear HO366; clear HB; have HO366 := n0_; have HB := n1_; clear n0_ n1_; (try clear hb); (try clear hb2); (try clear hk); (try clear hi)))
             go_ret
             exact ⟨by first | rfl | (simp [errW_none, errW_some] <;> rfl) | (simp only [← hji5]; first | rfl | (simp [errW_none, errW_some] <;> rfl)) | (simp [*, errW_none, errW_some] <;> rfl), by repeat (first | (with_reducible first | exact HB.out | apply below_alloc | apply pw_below_drewN | apply below_drew1) | exact HB.out)⟩
            ·replace c22 := Bool.eq_false_iff.mpr c22
             subst c22
             have H1 : (balustraderef29_joins.l0 k1 l0 l1 a2 a3 (rd l1 (ji5)) (wrap64 (x10_1 + 1))) = some r := by rw [if_neg (show ¬ (false = true) by decide)] at H; exact H
             clear H
             have H := H1
             clear H1
             have H' := Aside0.mk H
             clear H
             have p356 : 0 ≤ ((rd l1 (ji5)) : Int) := of_decide_eq_true (by first | (with_reducible assumption) | assumption)
             have q356 : (rd l1 (ji5)) < (l0.length : Int) := of_decide_eq_true (by first | (with_reducible assumption) | assumption)
             obtain ⟨ad356, A356_0, c356_0, e356, hx356_0, hl356_0, hi356_0⟩ := at_L2 HR0.out (rd l1 (ji5)) p356 q356
             cases e356
             replace hx356_0 := (HB.out.cell (World.block_lt_of_cell? w _ hx356_0)).trans hx356_0
             have HR356_0 := Aside0.mk hi356_0
             have HC356_0 := Aside0.mk hl356_0
             clear hi356_0 hl356_0
             replace p356 := eq_true p356
             replace q356 := eq_true q356
             have p357 : 0 ≤ ((rd l1 (ji5)) : Int) := of_decide_eq_true (by first | (with_reducible assumption) | assumption)
             have q357 : (rd l1 (ji5)) < (l0.length : Int) := of_decide_eq_true (by first | (with_reducible assumption) | assumption)
             obtain ⟨ad357, A357_0, c357_0, e357, hx357_0, hl357_0, hi357_0⟩ := at_L2 HR0.out (rd l1 (ji5)) p357 q357
             obtain rfl : ad356 = ad357 := (by injection e357)
             replace hx357_0 := (HB.out.cell (World.block_lt_of_cell? w _ hx357_0)).trans hx357_0
             have HR357_0 := Aside0.mk hi357_0
             have HC357_0 := Aside0.mk hl357_0
             clear hi357_0 hl357_0
             replace p357 := eq_true p357
             replace q357 := eq_true q357
             have ea_ := Option.some.inj (hx356_0.symm.trans hx357_0)
             injection ea_ with ea_ en_ ec_
             subst ea_
             subst ec_
             clear en_
             have p358 : 0 ≤ (x10_1 : Int) := of_decide_eq_true (by first | (with_reducible assumption) | assumption)
             have q358 : x10_1 < ((rd_L2 l0 (rd l1 (ji5))).length : Int) := of_decide_eq_true (by first | (with_reducible assumption) | assumption)
             obtain ⟨ad358, e358, hx358_0⟩ := Kd.at_int HR357_0.out x10_1 p358 q358
             cases e358
             replace hx358_0 := (HB.out.cell (World.block_lt_of_cell? w _ hx358_0)).trans hx358_0
             replace p358 := eq_true p358
             replace q358 := eq_true q358
             go_wp2_with (first | ((with_reducible refine gate_callee (f := 13) rfl ?_); refine goesL_ (some 44) rfl rfl Try.func13 (by kernel_rfl) rfl #[.slice (some ad355) l1.length c1, .int .i64 (rd (rd_L2 l0 (rd l1 (ji5))) x10_1)] rfl (by (try simp only [List.map_toArray, List.map_cons, List.map_nil]); first | done | (simp only [hji5]; rfl) | rfl | (simp only [List.length_drop, List.length_take]; rfl)) ?_; (with_reducible refine (balustradebase_HasInt.calls k1 _ _ l1 (rd (rd_L2 l0 (rd l1 (ji5))) x10_1) false _ ?side1 ?side2 A17.out).mono ?_); (case side1 => repeat (first | exact (Kd.C_below HR1.out HB.out) | (with_reducible refine Kd.C_alloc ?_ _) | (with_reducible refine Kd.C_drewN ?_ _) | (with_reducible refine Kd.C_drew ?_))); (case side2 => exact HC1.out); rintro e w' ⟨rfl, ⟨nd, rfl⟩⟩; refine ⟨_, rfl, ?_⟩) | (go_at_call 28; (with_reducible refine (balustradebase_Ints.calls _ _ l1 t361 _ ?side1 ?side2 A19.out).mono ?_); (case side1 => repeat (first | exact (Kd.C_below HR1.out (by repeat (first | (with_reducible first | exact HB.out | apply below_alloc | apply pw_below_drewN | apply below_drew1) | exact HB.out))) | (with_reducible refine Kd.C_alloc ?_ _) | (with_reducible refine Kd.C_drewN ?_ _) | (with_reducible refine Kd.C_drew ?_))); (case side2 => exact HC1.out); rintro e w27 ⟨v362, rfl, ho0, hb⟩; have n0_ := Aside0.mk (Kd.R_lower ho0 (below_size (by repeat (first | (with_reducible first | exact HB.out | apply below_alloc | apply pw_below_drewN | apply below_drew1) | exact HB.out)))); have n1_ := Aside0.mk (below_step (by repeat (first | (with_reducible first | exact HB.out | apply below_alloc | apply pw_below_drewN | apply below_drew1) | exact HB.out)) hb); clear HB; have HO363 := n0_; have HB := n1_; clear n0_ n1_; (try clear hb); (try clear hb2); (try clear hk); (try clear hi); (try clear ho0)) | ((with_reducible refine gate_builtin (b := .append) (xs := #[.tmp 49, .tmp 51]) rfl ?_); (try (refine gate_guard (by rfl) ?_; dsimp only)); at_builtin; refine Kd.R_append (Kd.int .i64) (w0 := w) w.heap.size rfl (.tmp 49) (.tmp 51) 23 3 (.int .i64 0) 8 rfl Try.underlying23 info3 rfl (by decide) (by omega) v362 t361 (rd (rd_L2 l0 (rd l1 (ji5))) x10_1) [.int .i64 (rd (rd_L2 l0 (rd l1 (ji5))) x10_1)] (fun _ => True) (fun _ => False) rfl rfl ?aP (fun _ hk => hk.elim) ?aF ?aO ?aB ?aS ?aL ?_; (case aP => exact rfl); (case aB => exact (by repeat (first | (with_reducible first | exact HB.out | apply below_alloc | apply pw_below_drewN | apply below_drew1) | exact HB.out))); (case aF => exact (fun _ _ => trivial)); (case aO => exact (by (with_reducible repeat (first | apply Kd.R_alloc | apply Kd.R_drewN | apply Kd.R_drew)); exact HO363.out)); (case aS => exact (below_size (by repeat (first | (with_reducible first | exact HB.out | apply below_alloc | apply pw_below_drewN | apply below_drew1) | exact HB.out)))); (case aL => have := LMc20.out; omega); intro v365 w28 ho hb hg hat; rw [← Ny364.out] at ho; have n0_ := Aside0.mk (hb); have n1_ := Aside0.mk (ho); clear HB; clear HO363; have HB := n0_; have HO366 := n1_; clear n0_ n1_; clear ho hb hg hat; obtain ⟨Ao29, co29, eo29⟩ := Kd.R_slice HO366.out; subst eo29) | (go_at_call 33; (with_reducible refine (ih k1 (by have := HK1.out; omega) _ _ l0 _ _ y364 a2 a3 false _ ?side1 ?side2 ?side3 ?side4 A21.out).mono ?_); (case side1 => repeat (first | exact (Kd.C_below HR0.out HB.out) | (with_reducible refine Kd.C_alloc ?_ _) | (with_reducible refine Kd.C_drewN ?_ _) | (with_reducible refine Kd.C_drew ?_))); (case side2 => exact HC0.out); (case side3 => repeat (first | exact (Kd.R_reads' HO366.out).2.2 | (with_reducible refine Kd.C_alloc ?_ _) | (with_reducible refine Kd.C_drewN ?_ _) | (with_reducible refine Kd.C_drew ?_))); (case side4 => exact (Kd.R_reads' HO366.out).2.1); rintro e w30 ⟨rfl, hb⟩; have n0_ := Aside0.mk (Kd.R_below (by (with_reducible repeat (first | apply Kd.R_alloc | apply Kd.R_drewN | apply Kd.R_drew)); exact HO366.out) hb); have n1_ := Aside0.mk (below_step (by repeat (first | (with_reducible first | exact HB.out | apply below_alloc | apply pw_below_drewN | apply below_drew1) | exact HB.out)) hb); clear HO366; clear HB; have HO366 := n0_; have HB := n1_; clear n0_ n1_; (try clear hb); (try clear hb2); (try clear hk); (try clear hi)))
             go_roundg k1
             case measure => have := HK1.out; omega
             case rel => exact ⟨(wrap64 (x10_1 + 1)), (by first | rfl | (simp; done) | (simp [*]; done)), H', ⟨by have := HK1.out; omega⟩, ⟨by repeat (first | (with_reducible first | exact HB.out | apply below_alloc | apply pw_below_drewN | apply below_drew1) | exact HB.out)⟩⟩
           ·rw [if_neg c20] at H
            exact absurd H (by simp)
        ·rw [if_neg c11] at H
         exact absurd H (by simp)
       ·rw [if_neg c10] at H
        have c10b0 : decide (x10_1 < ((rd_L2 l0 (rd l1 (ji5))).length : Int)) = false := decide_eq_false c10
        clear c10
        obtain rfl := Option.some.inj H
        have p356 : 0 ≤ ((rd l1 (ji5)) : Int) := of_decide_eq_true (by first | (with_reducible assumption) | assumption)
        have q356 : (rd l1 (ji5)) < (l0.length : Int) := of_decide_eq_true (by first | (with_reducible assumption) | assumption)
        obtain ⟨ad356, A356_0, c356_0, e356, hx356_0, hl356_0, hi356_0⟩ := at_L2 HR0.out (rd l1 (ji5)) p356 q356
        cases e356
        replace hx356_0 := (HB.out.cell (World.block_lt_of_cell? w _ hx356_0)).trans hx356_0
        have HR356_0 := Aside0.mk hi356_0
        have HC356_0 := Aside0.mk hl356_0
        clear hi356_0 hl356_0
        replace p356 := eq_true p356
        replace q356 := eq_true q356
        go_wp2
        go_ret
        exact ⟨by first | rfl | (simp [errW_none, errW_some] <;> rfl) | (simp only [← hji5]; first | rfl | (simp [errW_none, errW_some] <;> rfl)) | (simp [*, errW_none, errW_some] <;> rfl), by repeat (first | (with_reducible first | exact HB.out | apply below_alloc | apply pw_below_drewN | apply below_drew1) | exact HB.out)⟩
      ·rw [if_neg c9] at H
       exact absurd H (by simp)
     ·rw [if_neg c8] at H
      exact absurd H (by simp)
  ·rw [if_neg c7] at H
   exact absurd H (by simp)
 ·rw [if_neg c6] at H
  exact absurd H (by simp)
/-! ### balustraderef29_Joins: function 12 -/
def balustraderef29_Joins.f (k : Nat) (a0_0 : ByteArray) (a0_1 : Int) (a0_2 : Int) (l0_3 : List Int) (l0_4 : List (List (S50))) (a1 : Int) (a2 : Int) (a3 : Int) : Option (Bool) := (balustraderef17_Succs.f k a0_0 a0_1 a0_2 l0_3 l0_4).bind fun t369 => ((balustraderef29_joins.f k t369 (([a1] : List Int)) a2 a3).bind fun t375 => (some t375))
set_option maxHeartbeats 8000000 in
set_option maxRecDepth 100000 in
theorem balustraderef29_Joins.calls (k : Nat) (a0_0 : ByteArray) (a0_1 : Int) (a0_2 : Int) (A0_3 : Option Addr) (c0_3 : Nat) (l0_3 : List Int) (A0_4 : Option Addr) (c0_4 : Nat) (l0_4 : List (List (S50))) (a1 : Int) (a2 : Int) (a3 : Int) (r : Bool) (w : World) (hr0_3 : Kd.C (Kd.int .i64) w A0_3 l0_3.length l0_3) (hc0_3 : l0_3.length ≤ c0_3) (hr0_4 : Kd.C (Kd.slice 50 k50) w A0_4 l0_4.length l0_4) (hc0_4 : l0_4.length ≤ c0_4) (h : balustraderef29_Joins.f k a0_0 a0_1 a0_2 l0_3 l0_4 a1 a2 a3 = some r) :
  Calls Try.prog 12 #[.agg #[.string a0_0, .int .i64 a0_1, .int .i64 a0_2, .slice A0_3 l0_3.length c0_3, .slice A0_4 l0_4.length c0_4], .int .i64 a1, .int .i64 a2, .int .i64 a3] w fun e w' => e = .returned (.bool r) ∧ Below w.heap.size w w' := by
 have hu30 := Try.underlying30
 have HR0_3 := Aside0.mk hr0_3
 have HC0_3 := Aside0.mk hc0_3
 clear hr0_3 hc0_3
 have HR0_4 := Aside0.mk hr0_4
 have HC0_4 := Aside0.mk hc0_4
 clear hr0_4 hc0_4
 have HB := Aside0.mk (Below.refl w.heap.size w)
 have H : ((balustraderef17_Succs.f k a0_0 a0_1 a0_2 l0_3 l0_4).bind fun t369 => ((balustraderef29_joins.f k t369 (([a1] : List Int)) a2 a3).bind fun t375 => (some t375))) = some r := h
 clear h
 replace H := Option.bind_eq_some_iff.mp H
 obtain ⟨t369, A50, H⟩ := H
 replace H : ((balustraderef29_joins.f k t369 (([a1] : List Int)) a2 a3).bind fun t375 => (some t375)) = some r := H
 have A5 := Aside0.mk A50
 clear A50
 obtain ⟨y372, hy372⟩ : ∃ y_ : List Int, y_ = (([a1] : List Int)) := ⟨_, rfl⟩
 replace H : ((balustraderef29_joins.f k t369 y372 a2 a3).bind fun t375 => (some t375)) = some r := by first | (rw [hy372]; with_reducible exact H) | (have H2_ := (Option.bind_some _ _).symm.trans H; rw [hy372]; with_reducible exact H2_) | (have H2_ := (Option.bind_some _ _).symm.trans H; with_reducible exact H2_) | with_reducible exact H | (rw [hy372]; exact H) | exact H
 have Ny372 := Aside0.mk hy372
 clear hy372
 replace H := Option.bind_eq_some_iff.mp H
 obtain ⟨t375, A60, H⟩ := H
 replace H : (some t375) = some r := H
 have A6 := Aside0.mk A60
 clear A60
 obtain rfl := Option.some.inj H
 go_enter Try.func12, Try.ntmps12
 go_wp2_with (first | ((with_reducible refine gate_dst (N := 4) rfl ?_); refine box_event ?hg (N := 4) ?hd (cs := #[.string a0_0, .int .i64 a0_1, .int .i64 a0_2, .slice A0_3 l0_3.length c0_3, .slice A0_4 l0_4.length c0_4]) (t := 30) ?hr ?_; (case hd => rfl); (case hg => rfl); (case hr => first | (go_simp; done) | (go_simp; rfl)); intro gb368 hg w7 hbox hb; have n0_ := Aside0.mk (below_step (by repeat (first | (with_reducible first | exact HB.out | apply below_alloc | apply pw_below_drewN | apply below_drew1) | exact HB.out)) hb); have n1_ := Aside0.mk (hbox); have n2_ := Aside0.mk ((by rw [hg]; exact (below_size (by repeat (first | (with_reducible first | exact HB.out | apply below_alloc | apply pw_below_drewN | apply below_drew1) | exact HB.out))) : w.heap.size ≤ gb368)); have n3_ := Aside0.mk ((by rw [hg]; exact (below_size (by repeat (first | (with_reducible first | exact HB.out | apply below_alloc | apply pw_below_drewN | apply below_drew1) | exact HB.out))) : w.heap.size ≤ gb368)); clear HB; have HB := n0_; have BK368 := n1_; have GW368 := n2_; have GE368 := n3_; clear n0_ n1_ n2_ n3_; clear hb hbox hg; have hcz8_0 : w7.cell? ⟨gb368, 0, none⟩ = some (.string a0_0) := (blk_cell BK368.out 0).trans rfl; have hcz8_1 : w7.cell? ⟨gb368, 1, none⟩ = some (.int .i64 a0_1) := (blk_cell BK368.out 1).trans rfl; have hcz8_2 : w7.cell? ⟨gb368, 2, none⟩ = some (.int .i64 a0_2) := (blk_cell BK368.out 2).trans rfl; have hcz8_3 : w7.cell? ⟨gb368, 3, none⟩ = some (.slice A0_3 l0_3.length c0_3) := (blk_cell BK368.out 3).trans rfl; have hcz8_4 : w7.cell? ⟨gb368, 4, none⟩ = some (.slice A0_4 l0_4.length c0_4) := (blk_cell BK368.out 4).trans rfl; have hfz8_0 := blk_frozen BK368.out 0; have hfz8_1 := blk_frozen BK368.out 1; have hfz8_2 := blk_frozen BK368.out 2; have hfz8_3 := blk_frozen BK368.out 3; have hfz8_4 := blk_frozen BK368.out 4) | ((with_reducible refine gate_callee (f := 32) rfl ?_); refine goesL_ (some 11) rfl rfl Try.func32 (by kernel_rfl) rfl #[.agg #[.string a0_0, .int .i64 a0_1, .int .i64 a0_2, .slice A0_3 l0_3.length c0_3, .slice A0_4 l0_4.length c0_4]] rfl (by (try simp only [List.map_toArray, List.map_cons, List.map_nil]); first | done | rfl | (simp only [List.length_drop, List.length_take]; rfl)) ?_; (with_reducible refine (balustraderef17_Succs.calls k a0_0 a0_1 a0_2 _ _ l0_3 _ _ l0_4 t369 _ ?side1 ?side2 ?side3 ?side4 A5.out).mono ?_); (case side1 => repeat (first | exact (Kd.C_below HR0_3.out HB.out) | (with_reducible refine Kd.C_alloc ?_ _) | (with_reducible refine Kd.C_drewN ?_ _) | (with_reducible refine Kd.C_drew ?_))); (case side2 => exact HC0_3.out); (case side3 => repeat (first | exact (Kd.C_below HR0_4.out HB.out) | (with_reducible refine Kd.C_alloc ?_ _) | (with_reducible refine Kd.C_drewN ?_ _) | (with_reducible refine Kd.C_drew ?_))); (case side4 => exact HC0_4.out); rintro e w9 ⟨v370, rfl, ho0, hb⟩; refine ⟨_, rfl, ?_⟩; have n0_ := Aside0.mk (Kd.S_lower ho0 (below_size (by repeat (first | (with_reducible first | exact HB.out | apply below_alloc | apply pw_below_drewN | apply below_drew1 | refine below_set ?_ GE368.out) | exact HB.out)))); have n1_ := Aside0.mk (blk_below (g := gb368) (o := .cells #[.string a0_0, .int .i64 a0_1, .int .i64 a0_2, .slice A0_3 l0_3.length c0_3, .slice A0_4 l0_4.length c0_4] 30 (0, 0)) (by (with_reducible repeat (first | refine blk_drewN ?_ _ | refine blk_drew ?_ | refine blk_alloc ?_ _)); exact BK368.out) hb); have n2_ := Aside0.mk (below_step (by repeat (first | (with_reducible first | exact HB.out | apply below_alloc | apply pw_below_drewN | apply below_drew1 | refine below_set ?_ GE368.out) | exact HB.out)) hb); clear BK368; clear HB; have HO371 := n0_; have BK368 := n1_; have HB := n2_; clear n0_ n1_ n2_; (try clear hb); (try clear hb2); (try clear hk); (try clear hi); (try clear ho0)) | ((with_reducible refine gate_dst (N := 14) rfl ?_); refine Kd.R_lit (Kd.int .i64) _ 3 ?hg (N := 14) ?hd (xs := ([a1] : List Int)) (inner := [.int .i64 a1]) (ok := fun _ => True) (okp := fun _ => True) ?hr ?hp (fun _ hk => hk) trivial (Below.refl _ _) (Nat.le_refl _) (by simp) ?_; (case hd => rfl); (case hg => rfl); (case hr => first | (go_simp; done) | (go_simp; rfl)); (case hp => exact (Reps.one (show Kd.M (Kd.int .i64) _ _ _ a1 [.int .i64 a1] from rfl) (Reps.none _ _))); intro v373 w10 ho11 hb hg_ hnew_; clear hg_ hnew_; (first | rw [← Ny372.out] at ho11 | (simp only [Int.reduceToNat] at ho11; rw [← Ny372.out] at ho11)); have n0_ := Aside0.mk (Kd.S_elder' (by (with_reducible repeat (first | apply Kd.S_alloc | apply Kd.S_drewN | apply Kd.S_drew)); exact HO371.out) (Kd.R_base ho11) hb); have n1_ := Aside0.mk (Kd.R_lower ho11 (below_size (by repeat (first | (with_reducible first | exact HB.out | apply below_alloc | apply pw_below_drewN | apply below_drew1 | refine below_set ?_ GE368.out) | exact HB.out)))); have n2_ := Aside0.mk (blk_below (g := gb368) (o := .cells #[.string a0_0, .int .i64 a0_1, .int .i64 a0_2, .slice A0_3 l0_3.length c0_3, .slice A0_4 l0_4.length c0_4] 30 (0, 0)) (by (with_reducible repeat (first | refine blk_drewN ?_ _ | refine blk_drew ?_ | refine blk_alloc ?_ _)); exact BK368.out) hb); have n3_ := Aside0.mk (below_step (by repeat (first | (with_reducible first | exact HB.out | apply below_alloc | apply pw_below_drewN | apply below_drew1 | refine below_set ?_ GE368.out) | exact HB.out)) hb); clear HO371; clear BK368; clear HB; have HO371 := n0_; have HO374 := n1_; have BK368 := n2_; have HB := n3_; clear n0_ n1_ n2_ n3_; clear hb ho11; obtain ⟨Ao12, co12, eo12⟩ := Kd.S_slice HO371.out; subst eo12; obtain ⟨Ao13, co13, eo13⟩ := Kd.R_slice HO374.out; subst eo13) | ((with_reducible refine gate_callee (f := 33) rfl ?_); refine goesL_ (some 17) rfl rfl Try.func33 (by kernel_rfl) rfl #[.slice Ao12 t369.length co12, .slice Ao13 y372.length co13, .int .i64 a2, .int .i64 a3] rfl (by (try simp only [List.map_toArray, List.map_cons, List.map_nil]); first | done | rfl | (simp only [List.length_drop, List.length_take]; rfl)) ?_; (with_reducible refine (balustraderef29_joins.calls k _ _ t369 _ _ y372 a2 a3 t375 _ ?side1 ?side2 ?side3 ?side4 A6.out).mono ?_); (case side1 => repeat (first | exact (Kd.S_reads' HO371.out).2.2 | (with_reducible refine Kd.C_alloc ?_ _) | (with_reducible refine Kd.C_drewN ?_ _) | (with_reducible refine Kd.C_drew ?_))); (case side2 => exact (Kd.S_reads' HO371.out).2.1); (case side3 => repeat (first | exact (Kd.R_reads' HO374.out).2.2 | (with_reducible refine Kd.C_alloc ?_ _) | (with_reducible refine Kd.C_drewN ?_ _) | (with_reducible refine Kd.C_drew ?_))); (case side4 => exact (Kd.R_reads' HO374.out).2.1); rintro e w14 ⟨rfl, hb⟩; refine ⟨_, rfl, ?_⟩; have n0_ := Aside0.mk (Kd.S_below (by (with_reducible repeat (first | apply Kd.S_alloc | apply Kd.S_drewN | apply Kd.S_drew)); exact HO371.out) hb); have n1_ := Aside0.mk (Kd.R_below (by (with_reducible repeat (first | apply Kd.R_alloc | apply Kd.R_drewN | apply Kd.R_drew)); exact HO374.out) hb); have n2_ := Aside0.mk (blk_below (g := gb368) (o := .cells #[.string a0_0, .int .i64 a0_1, .int .i64 a0_2, .slice A0_3 l0_3.length c0_3, .slice A0_4 l0_4.length c0_4] 30 (0, 0)) (by (with_reducible repeat (first | refine blk_drewN ?_ _ | refine blk_drew ?_ | refine blk_alloc ?_ _)); exact BK368.out) hb); have n3_ := Aside0.mk (below_step (by repeat (first | (with_reducible first | exact HB.out | apply below_alloc | apply pw_below_drewN | apply below_drew1 | refine below_set ?_ GE368.out) | exact HB.out)) hb); clear HO371; clear HO374; clear BK368; clear HB; have HO371 := n0_; have HO374 := n1_; have BK368 := n2_; have HB := n3_; clear n0_ n1_ n2_ n3_; (try clear hb); (try clear hb2); (try clear hk); (try clear hi)))
 go_ret
 exact ⟨by first | rfl | (simp [errW_none, errW_some] <;> rfl) | (simp [*, errW_none, errW_some] <;> rfl), by repeat (first | (with_reducible first | exact HB.out | apply below_alloc | apply pw_below_drewN | apply below_drew1 | refine below_set ?_ GE368.out) | exact HB.out)⟩
end Go.Proofs.Ytjibojmbhbaneaa.PRm
