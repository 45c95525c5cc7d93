/- rim.All: the rims of blocks, again and again, by a worklist; the keys met, in ascending order. -/
import Derived.Test.YtjibojmbhbaneaaXRange
import Derived.Test.YtjibojmbhbaneaaXSort
import Derived.Test.YtjibojmbhbaneaaXRows
import Derived.Test.YtjibojmbhbaneaaPRmx0
namespace Go.Proofs.Ytjibojmbhbaneaa.PRm
open Go.RowKit Go.Proofs.YtjibojmbhbaneaaW.PrintWords Go.Proofs.YtjibojmbhbaneaaW.PrintLast Go.Proofs.YtjibojmbhbaneaaW.PrintMore Go.Proofs.Ytjibojmbhbaneaa.X
set_option linter.unusedVariables false
def rall.row (n : Nat) : List Int → List Int × List Int → Option (List Int × List Int)
  | [], st => some st
  | t :: l, st =>
    if t ∈ st.1 then rall.row n l st
    else if t < 0 then rall.row n l st
    else if t < (n : Int) then
      if st.2.length < 17592186044415 then rall.row n l (st.1 ++ [t], st.2 ++ [t]) else none
    else rall.row n l st
def rall.go (rims : List (List Int)) : Nat → List Int × List Int → Option (List Int)
  | 0, _ => none
  | n + 1, st =>
    if 0 < st.2.length then
      if rd st.2 (st.2.length - 1) < 0 then rall.go rims n (st.1, st.2.take (st.2.length - 1))
      else if rd st.2 (st.2.length - 1) < (rims.length : Int) then
        (rall.row rims.length (rims.getD (rd st.2 (st.2.length - 1)).toNat []) (st.1, st.2.take (st.2.length - 1))).bind fun st1 => rall.go rims n st1
      else rall.go rims n (st.1, st.2.take (st.2.length - 1))
    else some st.1
def rim_All.f (k : Nat) (l0 : List (List Int)) (l1 : List Int) : Option (List Int) :=
  if l1.length ≤ 17592186044415 then
    (rall.go l0 k ([], l1)).bind fun met => if met.length < 17592186044415 then some (sorted met) else none
  else none
theorem rall.go_mono (rims : List (List Int)) : ∀ n st, LeO (rall.go rims n st) (rall.go rims (n + 1) st)
  | 0, _ => LeO.none _
  | n + 1, st => by
    rw [rall.go, rall.go]
    exact LeO.ite (LeO.ite (rall.go_mono rims n _) (LeO.ite (LeO.bind (LeO.refl _) (fun _ => rall.go_mono rims n _)) (rall.go_mono rims n _))) (LeO.refl _)
/-- The pairs of the keys met. -/
def rall.kv (met : List Int) : List (Int × Int) := met.map fun t => (t, 1)
theorem rall.find (met : List Int) (t : Int) : (((rall.kv met).find? (fun p => t == p.1)).map (·.2)).getD 0 = if t ∈ met then 1 else 0 := by
  induction met with
  | nil => simp [rall.kv]
  | cons a l ih =>
    rw [rall.kv, List.map_cons, List.find?_cons]
    by_cases h : t = a
    · simp [h]
    · have h1 : (t == a) = false := by simp [h]
      simp only [h1, Bool.false_eq_true, if_false, List.mem_cons, h, false_or]
      exact ih
theorem rall.find_none {met : List Int} {t : Int} (h : t ∉ met) : (rall.kv met).find? (fun p => t == p.1) = none := by
  rw [List.find?_eq_none]
  intro p hp
  obtain ⟨q, hq, rfl⟩ := List.mem_map.1 hp
  simp only [beq_iff_eq]
  intro e
  exact h (e ▸ hq)
theorem rall.kv_add (met : List Int) (t : Int) : rall.kv met ++ [(t, 1)] = rall.kv (met ++ [t]) := by simp [rall.kv]
theorem rall.zero (w : World) : (zeroValue 3).run Try.prog w = .ok (.int .i64 0) w := by kernel_rfl
theorem rall.done {ks met : List Int} (h : ks.Perm ((rall.kv met).map Prod.fst)) : sorted ks = sorted met := by
  have h1 : (rall.kv met).map Prod.fst = met := by simp [rall.kv, Function.comp_def]
  rw [h1] at h
  have h2 : (sorted ks).Perm (sorted met) := (List.mergeSort_perm ks _).trans (h.trans (List.mergeSort_perm met _).symm)
  exact h2.eq_of_pairwise (fun a b _ _ h1 h2 => by simp at h1 h2; omega) (List.pairwise_mergeSort (fun a b c h1 h2 => by simp at h1 h2 ⊢; omega) (fun a b => by simp; omega) ks) (List.pairwise_mergeSort (fun a b c h1 h2 => by simp at h1 h2 ⊢; omega) (fun a b => by simp; omega) met)
/-- What stands in the loops: the map met, the row waiting. -/
structure rall.I (w w0 : World) (b : Nat) (v : Value) (met wt : List Int) (W : World) : Prop where
  bel : Below w.heap.size w W
  map : IS W b (rall.kv met)
  hb : w.heap.size ≤ b
  row : Kd.R (Kd.int .i64) 3 W w.heap.size (fun q => q ≠ b) v wt
set_option maxHeartbeats 8000000 in
set_option maxRecDepth 100000 in
theorem rim_All.calls (k : Nat) (A0 : Option Addr) (c0 : Nat) (l0 : List (List Int)) (A1 : Option Addr) (c1 : Nat) (l1 : List Int) (r : List Int) (w : World) (hr0 : Kd.C (Kd.slice 3 (Kd.int .i64)) w A0 l0.length l0) (hc0 : l0.length ≤ c0) (hr1 : Kd.C (Kd.int .i64) w A1 l1.length l1) (hc1 : l1.length ≤ c1) (h : rim_All.f k l0 l1 = some r) :
    Calls Try.prog 8 #[.slice A0 l0.length c0, .slice A1 l1.length c1] w fun e w' => ∃ v0_ : Value, e = .returned (v0_) ∧ Kd.R (Kd.int .i64) 3 w' w.heap.size (fun _ => True) v0_ r ∧ Below w.heap.size w w' := by
  by_cases hl : l1.length ≤ 17592186044415
  case neg => rw [rim_All.f, if_neg hl] at h; exact absurd h (by simp)
  rw [rim_All.f, if_pos hl] at h
  obtain ⟨met, h1, h2⟩ := Option.bind_eq_some_iff.1 h
  by_cases hm : met.length < 17592186044415
  case neg => rw [if_neg hm] at h2; exact absurd h2 (by simp)
  rw [if_pos hm] at h2
  obtain rfl := Option.some.inj h2
  obtain ⟨hd, hR2⟩ := Rows2.of_C hr0
  have HR0 := Aside0.mk hR2
  have HR1 := Aside0.mk hr1
  have HL1 := Aside0.mk hl
  have HM := Aside0.mk hm
  have H1 := Aside0.mk h1
  have p8 : l0.length ≤ 9223372036854775807 := hr0.2.1
  clear hr0 hc0 hr1 hc1 h h1 h2 hR2 hl hm
  go_enter Try.func8, Try.ntmps8
  go_wp2_with (first
    | ((with_reducible refine gate_dst (N := 12) rfl ?_); refine wpList_makeMap_is rfl 53 rfl ?_; intro W1 hm1 hg1
       have HB1 := Aside0.mk (Below.grown (Below.refl w.heap.size w) hg1 (Nat.le_refl _) (fun j e => by cases e)); have HM1 := Aside0.mk hm1; have hs1 := Aside0.mk hm1.lt; clear hg1 hm1)
    | (go_at_call 26; refine (clone_calls A1 c1 l1 W1 (Kd.C_below HR1.out HB1.out) HL1.out).mono ?_; rintro e W2 ⟨v0, rfl, hR2, hB2⟩
       obtain ⟨B2, b2, hv2⟩ := Kd.R_slice hR2; subst hv2
       have HI := Aside0.mk (show rall.I w w w.heap.size (.slice B2 l1.length b2) [] l1 W2 from ⟨HB1.out.trans (hB2.mono HB1.out.size), HM1.out.kept (hB2.block _ hs1.out), Nat.le_refl _, R_ok_int (Kd.R_lower hR2 HB1.out.size) (fun q hq e => by have := hs1.out; have := (Kd.R_bound hR2).1 q hq; omega)⟩)
       clear hR2 hB2))
  go_loopg [6] k (fun kq v6 w' => ∃ (met1 wt : List Int) (A : Option Addr) (c : Nat), v6 = .slice A wt.length c ∧ Aside0 (rall.go l0 kq (met1, wt) = some met) ∧ Aside0 (kq ≤ k) ∧ Aside0 (rall.I w w w.heap.size (.slice A wt.length c) met1 wt w'))
  case atStart => exact ⟨_, _, _, _, rfl, H1, ⟨Nat.le_refl _⟩, HI⟩
  case round =>
    obtain ⟨met1, wt, A, c, rfl, HA, HK, HI2⟩ := hrel
    clear HI H1
    cases gk with
    | zero => exact absurd HA.out (by simp [rall.go])
    | succ k1 =>
      have hf1 := HA.out
      rw [rall.go] at hf1
      clear HA
      by_cases hw : 0 < wt.length
      · rw [if_pos hw] at hf1
        obtain ⟨_, hlc, hC⟩ := Kd.R_reads' HI2.out.row
        obtain ⟨ad, hAd, hx⟩ := Kd.at_int hC ((wt.length : Int) - 1) (by omega) (by omega)
        obtain ⟨hcut, _, _⟩ := print_take_of (P := Try.prog) (Value.int .i64) (0 : Int) 23 3 .i64 Try.underlying23 (i := Try.t3) (by kernel_rfl) rfl A c wt ((wt.length : Int) - 1) (by omega) (by omega) hlc
        rw [show ((wt.length : Int) - 1).toNat = wt.length - 1 by omega] at hx hcut
        have HIt := Aside0.mk (show rall.I w w w.heap.size (.slice A (wt.take (wt.length - 1)).length c) met1 (wt.take (wt.length - 1)) wr from ⟨HI2.out.bel, HI2.out.map, HI2.out.hb, by
            have hq := Kd.R_take HI2.out.row (m := wt.length - 1) (by omega)
            rw [List.length_take, Nat.min_eq_left (by omega)]
            exact hq⟩)
        obtain ⟨x, hxe⟩ : ∃ x, x = rd wt ((wt.length : Int) - 1) := ⟨_, rfl⟩
        rw [← hxe] at hf1 hx
        have p9 : wt.length ≤ 9223372036854775807 := hC.2.1
        clear hxe hC
        subst hAd
        by_cases w1 : x < 0
        · rw [if_pos w1] at hf1
          have Hf := Aside0.mk hf1
          have w1b : decide (x < 0) = true := decide_eq_true w1
          clear hf1
          go_wp2
          go_roundg k1
          case measure => have := HK.out; omega
          case rel => exact ⟨met1, wt.take (wt.length - 1), some ad, c, by rw [List.length_take, Nat.min_eq_left (by omega)], Hf, ⟨by have := HK.out; omega⟩, HIt⟩
        · rw [if_neg w1] at hf1
          have w1b : decide (x < 0) = false := decide_eq_false w1
          have x0 : 0 ≤ x := by omega
          by_cases w2 : x < (l0.length : Int)
          · rw [if_pos w2] at hf1
            have w2b : decide (x ≥ (l0.length : Int)) = false := decide_eq_false (by omega)
            obtain ⟨st1, hrow, hrest⟩ := Option.bind_eq_some_iff.1 hf1
            obtain ⟨l, hle⟩ : ∃ l, l = l0.getD x.toNat [] := ⟨_, rfl⟩
            obtain ⟨B0, b0, hB⟩ : ∃ A0 c0, hd x.toNat = (A0, c0) := ⟨_, _, rfl⟩
            obtain ⟨ad3, hA3, hy, _, _⟩ := (HR0.out.below HI2.out.bel) x.toNat (by omega)
            have HC := Aside0.mk (show ∀ W : World, Below w.heap.size w W → (Kd.int .i64).C W B0 l.length l from fun W hW => by
              obtain ⟨_, _, _, _, q⟩ := (HR0.out.below hW) x.toNat (by omega)
              rw [hB, ← hle] at q
              exact q)
            rw [hB, ← hle] at hy
            rw [← hle] at hrow
            subst hA3
            have p7 : l.length ≤ 9223372036854775807 := (HC.out wr HI2.out.bel).2.1
            have q0 := eq_true x0
            have q1 := eq_true w2
            have Hrow := Aside0.mk hrow
            have Hrest := Aside0.mk hrest
            clear hf1 hle hB hrow hrest
            obtain ⟨wo, rfl⟩ : ∃ wo : World, wo = wr := ⟨_, rfl⟩
            go_wp2
            go_loopw [6, 42] (fun v6 i wr => ∃ (q : Nat) (met2 wt2 : List Int) (A2 : Option Addr) (c2 : Nat), v6 = .slice A2 wt2.length c2 ∧ i = .int .i64 q ∧ Aside0 (q ≤ l.length) ∧ Aside0 (rall.row l0.length (l.drop q) (met2, wt2) = some st1) ∧ Aside0 (rall.I w w w.heap.size (.slice A2 wt2.length c2) met2 wt2 wr)) (fun _ i _ => l.length - (intOf i).toNat)
            case atStart => exact ⟨0, met1, wt.take (wt.length - 1), some ad, c, by rw [List.length_take, Nat.min_eq_left (by omega)], rfl, ⟨Nat.zero_le _⟩, Hrow, HIt⟩
            case round =>
              obtain ⟨q, met2, wt2, A2, c2, rfl, rfl, ⟨hq⟩, Hf2, HI3⟩ := hrel
              clear hx hy hcut HIt Hrow HI2
              have p0q : (0 : Int) ≤ (q : Int) := by omega
              by_cases hlt : q < l.length
              · have hf1 := Hf2.out
                rw [List.drop_eq_getElem_cons hlt, rall.row] at hf1
                obtain ⟨t, ht⟩ : ∃ t, t = l[q] := ⟨_, rfl⟩
                rw [← ht] at hf1
                obtain ⟨ad4, hA4, hx4⟩ := Kd.at_int (HC.out wr HI3.out.bel) (q : Int) (by omega) (by omega)
                rw [show rd l (q : Int) = t from by rw [ht]; simp [rd, List.getD, hlt], Int.toNat_natCast] at hx4
                subst hA4
                clear ht Hf2
                by_cases u1 : t ∈ met2
                · rw [if_pos u1] at hf1
                  have Hf := Aside0.mk hf1
                  have U1 := Aside0.mk u1
                  clear hf1 u1
                  go_wp2_with (first
                    | ((with_reducible refine gate_dst (N := 48) rfl ?_); refine wpList_lookup_im rfl (.tmp 46) (.tmp 47) 53 rfl Try.underlying53 Try.underlying3 rall.zero rfl HI3.out.map.im t rfl ?_; intro cv hcv; rw [rall.find, if_pos U1.out] at hcv; subst hcv))
                  go_roundw
                  case rel => exact ⟨q + 1, _, _, _, _, rfl, by go_num, ⟨by omega⟩, Hf, HI3⟩
                  case measure => simp [intOf]; omega
                · rw [if_neg u1] at hf1
                  have U1 := Aside0.mk u1
                  clear u1
                  by_cases u2 : t < 0
                  · rw [if_pos u2] at hf1
                    have Hf := Aside0.mk hf1
                    have u2b : decide (t ≥ 0) = false := decide_eq_false (by omega)
                    clear hf1
                    go_wp2_with (first
                      | ((with_reducible refine gate_dst (N := 48) rfl ?_); refine wpList_lookup_im rfl (.tmp 46) (.tmp 47) 53 rfl Try.underlying53 Try.underlying3 rall.zero rfl HI3.out.map.im t rfl ?_; intro cv hcv; rw [rall.find, if_neg U1.out] at hcv; subst hcv))
                    go_roundw
                    case rel => exact ⟨q + 1, _, _, _, _, rfl, by go_num, ⟨by omega⟩, Hf, HI3⟩
                    case measure => simp [intOf]; omega
                  · rw [if_neg u2] at hf1
                    have u2b : decide (t ≥ 0) = true := decide_eq_true (by omega)
                    by_cases u3 : t < (l0.length : Int)
                    · rw [if_pos u3] at hf1
                      by_cases u4 : wt2.length < 17592186044415
                      case neg => rw [if_neg u4] at hf1; exact absurd hf1 (by simp)
                      rw [if_pos u4] at hf1
                      have Hf := Aside0.mk hf1
                      have U4 := Aside0.mk u4
                      have u3b : decide (t < (l0.length : Int)) = true := decide_eq_true u3
                      clear hf1 u4
                      go_wp2_with (first
                        | ((with_reducible refine gate_dst (N := 48) rfl ?_); refine wpList_lookup_im rfl (.tmp 46) (.tmp 47) 53 rfl Try.underlying53 Try.underlying3 rall.zero rfl HI3.out.map.im t rfl ?_; intro cv hcv; rw [rall.find, if_neg U1.out] at hcv; subst hcv)
                        | (at_mapUpdate; refine wpList_update_is rfl _ _ _ 53 rfl Try.underlying53 Try.underlying3 rfl HI3.out.map t 1 rfl rfl (rall.find_none U1.out) ?_; intro W5 hm5 hg5
                           rw [rall.kv_add] at hm5
                           have hI5 : rall.I w w w.heap.size (.slice A2 wt2.length c2) (met2 ++ [t]) wt2 W5 := ⟨HI3.out.bel.grown hg5 HI3.out.bel.size (fun j e => by cases e; exact Nat.le_refl _), hm5, HI3.out.hb, Kd.R_step HI3.out.row (fun z hz1 hz2 => hg5.block z hz2 (fun e => hz1 (by injection e)))⟩
                           have HI5 := Aside0.mk hI5; have hlt5 := Aside0.mk hm5.lt; clear hm5 hg5 hI5)
                        | ((with_reducible refine gate_builtin (b := .append) (xs := #[.tmp 62, .tmp 64]) rfl ?_); refine Kd.R_append (Kd.int .i64) (w0 := w) w.heap.size rfl (.tmp 62) (.tmp 64) 23 3 (.int .i64 0) 8 rfl Try.underlying23 info3 rfl (by decide) (by omega) (.slice A2 wt2.length c2) wt2 t [.int .i64 t] (fun z => z ≠ w.heap.size) (fun _ => False) rfl rfl rfl (fun _ hk => hk.elim) (fun z hz e => by have := hlt5.out; omega) HI5.out.row HI5.out.bel HI5.out.bel.size (by have := U4.out; omega) ?_; intro v1 W6 hR6 hB6 hg6 hat6
                           obtain ⟨A6, c6, hv6⟩ := Kd.R_slice hR6; subst hv6
                           have HI6 := Aside0.mk (show rall.I w w w.heap.size (.slice A6 (wt2 ++ [t]).length c6) (met2 ++ [t]) (wt2 ++ [t]) W6 from ⟨hB6, HI5.out.map.kept (hg6.block _ hlt5.out (fun e => (HI5.out.row.1 _ e.symm) rfl)), HI5.out.hb, hR6⟩)
                           clear hR6 hB6 hg6 hat6))
                      go_roundw
                      case rel => exact ⟨q + 1, met2 ++ [t], wt2 ++ [t], A6, c6, by simp, by go_num, ⟨by omega⟩, Hf, HI6⟩
                      case measure => simp [intOf]; omega
                    · rw [if_neg u3] at hf1
                      have Hf := Aside0.mk hf1
                      have u3b : decide (t < (l0.length : Int)) = false := decide_eq_false u3
                      clear hf1
                      go_wp2_with (first
                        | ((with_reducible refine gate_dst (N := 48) rfl ?_); refine wpList_lookup_im rfl (.tmp 46) (.tmp 47) 53 rfl Try.underlying53 Try.underlying3 rall.zero rfl HI3.out.map.im t rfl ?_; intro cv hcv; rw [rall.find, if_neg U1.out] at hcv; subst hcv))
                      go_roundw
                      case rel => exact ⟨q + 1, _, _, _, _, rfl, by go_num, ⟨by omega⟩, Hf, HI3⟩
                      case measure => simp [intOf]; omega
              · have hq2 : q = l.length := by omega
                subst hq2
                have hf1 := Hf2.out
                rw [List.drop_length, rall.row] at hf1
                obtain rfl := Option.some.inj hf1
                clear hf1 Hf2
                go_wp2
                go_roundg k1
                case measure => have := HK.out; omega
                case rel => exact ⟨_, _, _, _, rfl, Hrest, ⟨by have := HK.out; omega⟩, HI3⟩
          · rw [if_neg w2] at hf1
            have Hf := Aside0.mk hf1
            have w2b : decide (x ≥ (l0.length : Int)) = true := decide_eq_true (by omega)
            clear hf1
            go_wp2
            go_roundg k1
            case measure => have := HK.out; omega
            case rel => exact ⟨met1, wt.take (wt.length - 1), some ad, c, by rw [List.length_take, Nat.min_eq_left (by omega)], Hf, ⟨by have := HK.out; omega⟩, HIt⟩
      · rw [if_neg hw] at hf1
        obtain rfl := Option.some.inj hf1
        have hw1 : decide ((wt.length : Int) > 0) = false := decide_eq_false (by omega)
        have hw0 : wt.length = 0 := by omega
        clear hf1
        obtain ⟨wo, rfl⟩ : ∃ wo : World, wo = wr := ⟨_, rfl⟩
        go_wp2_with (first
          | ((with_reducible refine gate_dst (N := 68) rfl ?_); refine wpList_range_is rfl _ 53 rfl Try.underlying53 rfl HI2.out.map ?_; intro W7 hrg7 hg7
             have HRG := Aside0.mk hrg7; have HB7 := Aside0.mk (show Below w.heap.size w W7 from HI2.out.bel.grown hg7 HI2.out.bel.size (fun j e => by cases e)); clear hg7))
        go_loopw [10] (fun v10 wr => ∃ (ks : List Int) (A3 : Option Addr) (c3 : Nat), v10 = .slice A3 ks.length c3 ∧ Aside0 (RG wr w.heap.size wo.heap.size ks (rall.kv _)) ∧ Aside0 (Below w.heap.size w wr) ∧ Aside0 (Kd.R (Kd.int .i64) 3 wr w.heap.size (fun q => q ≠ w.heap.size ∧ q ≠ wo.heap.size) (.slice A3 ks.length c3) ks)) (fun _ wr => wr.rangeLeft w.heap.size wo.heap.size)
        case atStart => exact ⟨[], none, 0, rfl, HRG, HB7, ⟨Kd.R_nil _ _ _ _ _⟩⟩
        case round =>
          obtain ⟨ks, A3, c3, rfl, HRG2, HB8, HK8⟩ := hrel
          have hms := HRG2.out.left_eq
          have hle := HRG2.out.le
          have hkl : (rall.kv met1).length = met1.length := by simp [rall.kv]
          have hsz := HRG2.out.lt
          clear HRG HB7
          go_wp2_with (first
            | ((with_reducible refine gate_dst (N := 69) rfl ?_); refine wpList_next_rg rfl _ rfl rfl HRG2.out ?_ ?_))
          · intro hdone
            have HD := Aside0.mk hdone
            clear hdone
            go_wp2_with (first
              | (go_at_call 27; refine (sort_own (Kd.R_mono HK8.out (fun _ _ => trivial)) (by have := HM.out; omega) HB8.out HB8.out.size).mono ?_; rintro e W9 ⟨rfl, hR9, hB9⟩
                 have HR9 := Aside0.mk hR9; have HB9 := Aside0.mk hB9; clear hR9 hB9))
            go_ret
            exact ⟨_, rfl, by rw [← rall.done HD.out]; exact HR9.out, HB9.out⟩
          · intro x v W9 hrg9 hg9 hen9
            have HRG9 := Aside0.mk hrg9
            have HB9 := Aside0.mk (show Below w.heap.size w W9 from HB8.out.grown hg9 HB8.out.size (fun j e => by cases e; exact HI2.out.bel.size))
            have HK9 := Aside0.mk (show Kd.R (Kd.int .i64) 3 W9 w.heap.size (fun q => q ≠ w.heap.size ∧ q ≠ wo.heap.size) (.slice A3 ks.length c3) ks from Kd.R_step HK8.out (fun z hz1 hz2 => hg9.block z hz2 (fun e => hz1.2 (by injection e))))
            have hms9 := hrg9.left_eq
            have hle9 := hrg9.le
            have hlt9 := Aside0.mk hrg9.lt
            clear hrg9 hg9
            go_wp2_with (first
              | ((with_reducible refine gate_builtin (b := .append) (xs := #[.tmp 73, .tmp 75]) rfl ?_); refine Kd.R_append (Kd.int .i64) (w0 := w) w.heap.size rfl (.tmp 73) (.tmp 75) 23 3 (.int .i64 0) 8 rfl Try.underlying23 info3 rfl (by decide) (by omega) (.slice A3 ks.length c3) ks x [.int .i64 x] (fun z => z ≠ w.heap.size ∧ z ≠ wo.heap.size) (fun _ => False) rfl rfl rfl (fun _ hk => hk.elim) (fun z hz => by have := hlt9.out; constructor <;> (intro e; omega)) HK9.out HB9.out HB9.out.size (by have := HM.out; omega) ?_; intro v1 W6 hR6 hB6 hg6 hat6
                 obtain ⟨A6, c6, hv6⟩ := Kd.R_slice hR6; subst hv6
                 have HRG6 := Aside0.mk (show RG W6 w.heap.size wo.heap.size (ks ++ [x]) (rall.kv met1) from HRG9.out.kept (hg6.block _ hlt9.out.1 (fun e => (HK9.out.1 _ e.symm).1 rfl)) (hg6.block _ hlt9.out.2.1 (fun e => (HK9.out.1 _ e.symm).2 rfl)))
                 have HB6 := Aside0.mk hB6; have HK6 := Aside0.mk hR6
                 clear hR6 hB6 hg6 hat6))
            go_roundw
            case rel => exact ⟨ks ++ [x], A6, c6, by simp, HRG6, HB6, HK6⟩
            case measure => rw [HRG6.out.left_eq, hms]; simp at hle9 ⊢; omega
end Go.Proofs.Ytjibojmbhbaneaa.PRm
