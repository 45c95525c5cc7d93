/- Plain law: the reference's Without is who is reached, not through one. -/
import Derived.Test.YtjibojmbhbaneaaXPTree
import Derived.Test.YtjibojmbhbaneaaPRmx10
import Derived.Test.YtjibojmbhbaneaaPRmx11
namespace Go.Proofs.Ytjibojmbhbaneaa.PRm
open Go.RowKit Go.Proofs.YtjibojmbhbaneaaW.PrintWords Go.Proofs.YtjibojmbhbaneaaW.PrintLast Go.Proofs.YtjibojmbhbaneaaW.PrintMore Go.Proofs.Ytjibojmbhbaneaa.X Go.Proofs.Ytjibojmbhbaneaa.Dm
set_option linter.unusedVariables false
set_option linter.unusedSimpArgs false
def wstep (but k : Int) (st : List Bool × Bool) (t : Int) : List Bool × Bool :=
  if rdOf false st.1 k = true ∧ t ≠ but ∧ rdOf false st.1 t = false then (st.1.set t.toNat true, true) else st
/-- What a step keeps. -/
structure WG (s : List (List Int)) (but : Int) (st st' : List Bool × Bool) : Prop where
  len : st'.1.length = st.1.length
  mono : ∀ i, 0 ≤ i → rdOf false st.1 i = true → rdOf false st'.1 i = true
  ch : st.2 = true → st'.2 = true
  sound : (∀ i, 0 ≤ i → i < (s.length : Int) → rdOf false st.1 i = true → Rc s but i) → ∀ i, 0 ≤ i → i < (s.length : Int) → rdOf false st'.1 i = true → Rc s but i
  cnt : st'.1.count false ≤ st.1.count false
  less : st.2 = false → st'.2 = true → st'.1.count false < st.1.count false
  same : st'.2 = false → st' = st
theorem WG.refl (s : List (List Int)) (but : Int) (st : List Bool × Bool) : WG s but st st := ⟨rfl, fun _ _ h => h, id, id, Nat.le_refl _, fun h1 h2 => by rw [h1] at h2; exact absurd h2 (by simp), fun _ => rfl⟩
theorem WG.trans {s : List (List Int)} {but : Int} {a b c : List Bool × Bool} (h1 : WG s but a b) (h2 : WG s but b c) : WG s but a c :=
  ⟨h2.len.trans h1.len, fun i hi h => h2.mono i hi (h1.mono i hi h), fun h => h2.ch (h1.ch h), fun h => h2.sound (h1.sound h), Nat.le_trans h2.cnt h1.cnt, fun ha hc => by
    cases hb : b.2 with
    | true => exact Nat.lt_of_le_of_lt h2.cnt (h1.less ha hb)
    | false => exact Nat.lt_of_lt_of_le (h2.less hb hc) h1.cnt, fun hc => by
    have e := h2.same hc
    subst e
    exact h1.same hc⟩
theorem WG.step {s : List (List Int)} (hok : EOk s) {but k t : Int} (e : E s k t) {st : List Bool × Bool} (hl : st.1.length = s.length) : WG s but st (wstep but k st t) ∧ ((wstep but k st t).2 = false → rdOf false st.1 k = true → t ≠ but → rdOf false st.1 t = true) := by
  have ht := hok _ _ e
  have htl : t < (st.1.length : Int) := by omega
  unfold wstep
  by_cases h : rdOf false st.1 k = true ∧ t ≠ but ∧ rdOf false st.1 t = false
  · rw [if_pos h]
    refine ⟨⟨by simp, fun i hi h1 => ?_, fun _ => rfl, fun hs i h0 h1 h2 => ?_, ?_, fun _ _ => ?_, fun h => absurd h (by simp)⟩, fun h => absurd h (by simp)⟩
    · show rdOf false (st.1.set t.toNat true) i = true
      rw [rdOf_set ht.1 htl hi]
      split
      · rfl
      · exact h1
    · have h2' : rdOf false (st.1.set t.toNat true) i = true := h2
      rw [rdOf_set ht.1 htl h0] at h2'
      split at h2'
      · rename_i e'
        subst e'
        exact (hs k e.1 e.2.1 h.1).next e h.2.1
      · exact hs i h0 h1 h2'
    · have := count_set ht.1 htl h.2.2
      show (st.1.set t.toNat true).count false ≤ _
      omega
    · have := count_set ht.1 htl h.2.2
      show (st.1.set t.toNat true).count false < _
      omega
  · rw [if_neg h]
    refine ⟨WG.refl _ _ _, fun h1 h2 h3 => ?_⟩
    cases h4 : rdOf false st.1 t with
    | true => rfl
    | false => exact absurd ⟨h2, h3, h4⟩ h
theorem WG.row {s : List (List Int)} (hok : EOk s) {but k : Int} : ∀ (l : List Int) (st : List Bool × Bool), (∀ t, t ∈ l → E s k t) → st.1.length = s.length → WG s but st (l.foldl (wstep but k) st) ∧ ((l.foldl (wstep but k) st).2 = false → ∀ t, t ∈ l → rdOf false st.1 k = true → t ≠ but → rdOf false st.1 t = true)
  | [], st, _, _ => ⟨WG.refl _ _ _, fun _ t ht => absurd ht (by simp)⟩
  | t :: l, st, hl, hs => by
    obtain ⟨g1, c1⟩ := WG.step hok (hl t (by simp)) (but := but) hs
    obtain ⟨g2, c2⟩ := WG.row hok l (wstep but k st t) (fun u hu => hl u (by simp [hu])) (g1.len.trans hs)
    refine ⟨g1.trans g2, fun h u hu hk hb => ?_⟩
    have e := g2.same h
    have h1 : (wstep but k st t).2 = false := by rw [List.foldl_cons] at h; rw [← e]; exact h
    have e1 := g1.same h1
    rcases List.mem_cons.1 hu with hu | hu
    · subst hu; exact c1 h1 hk hb
    · have := c2 h u hu
      rw [e1] at this
      exact this hk hb
/-- One pass over the blocks from number j on. -/
def wpass (s : List (List Int)) (but : Int) : Nat → Nat → List Bool × Bool → List Bool × Bool
  | 0, _, st => st
  | m + 1, j, st => wpass s but m (j + 1) ((s.getD j []).foldl (wstep but (j : Int)) st)
theorem WG.pass {s : List (List Int)} (hok : EOk s) {but : Int} : ∀ (m j : Nat) (st : List Bool × Bool), j + m = s.length → st.1.length = s.length → WG s but st (wpass s but m j st) ∧ ((wpass s but m j st).2 = false → ∀ i t, (j : Int) ≤ i → E s i t → rdOf false st.1 i = true → t ≠ but → rdOf false st.1 t = true)
  | 0, j, st, hj, _ => ⟨WG.refl _ _ _, fun _ i t hi e => by have := e.2.1; omega⟩
  | m + 1, j, st, hj, hs => by
    have hr : ∀ t, t ∈ s.getD j [] → E s (j : Int) t := fun t ht => ⟨by omega, by omega, by rw [Int.toNat_natCast]; exact ht⟩
    obtain ⟨g1, c1⟩ := WG.row hok (s.getD j []) st hr hs (but := but)
    obtain ⟨g2, c2⟩ := WG.pass hok m (j + 1) _ (by omega) (g1.len.trans hs) (but := but)
    refine ⟨g1.trans g2, fun h i t hi e hx hb => ?_⟩
    have e2 := g2.same h
    have h1 : ((s.getD j []).foldl (wstep but (j : Int)) st).2 = false := by rw [wpass] at h; rw [← e2]; exact h
    have e1 := g1.same h1
    by_cases hij : i = (j : Int)
    · subst hij
      exact c1 h1 t (by have := e.2.2; rwa [Int.toNat_natCast] at this) hx hb
    · have := c2 h i t (by omega) e
      rw [e1] at this
      exact this hx hb
section
variable {s : List (List Int)} (hok : EOk s) (hs : s.length ≤ 1000000) (hrow : ∀ j, (s.getD j []).length ≤ 1000000) (but : Int)
theorem rdL2_getD (x : List (List Int)) (j : Nat) : rd_L2 x (j : Int) = x.getD j [] := by simp [rd_L2]
include hok hs hrow in
theorem w_l2 (j : Nat) (hj : j < s.length) (R : List Bool) : ∀ (m q : Nat) (st : List Bool × Bool), m = (s.getD j []).length - q → q ≤ (s.getD j []).length → st.1.length = s.length →
    Ev (fun k => balustraderef17_Without.l1 k but s (((s.getD j []).drop q).foldl (wstep but (j : Int)) st).1 (((s.getD j []).drop q).foldl (wstep but (j : Int)) st).2 ((j + 1 : Nat) : Int)) R →
    Ev (fun k => balustraderef17_Without.l2 k but s st.1 st.2 (j : Int) (q : Int)) R
  | 0, q, st, hm, hq, hl, hR => by
    have e : q = (s.getD j []).length := by omega
    rw [e, List.drop_length] at hR
    refine Ev.succ (Ev.of_eq hR fun k => ?_)
    rw [balustraderef17_Without.l2, if_pos (by omega), if_pos (by omega), rdL2_getD, if_neg (by omega), wr1 j (by omega)]
    rfl
  | m + 1, q, st, hm, hq, hl, hR => by
    have hqlt : q < (s.getD j []).length := by omega
    have hrl := hrow j
    have hmem : (s.getD j [])[q] ∈ s.getD j [] := List.getElem_mem hqlt
    have he : E s (j : Int) (s.getD j [])[q] := ⟨by omega, by omega, by rw [Int.toNat_natCast]; exact hmem⟩
    have ht := hok _ _ he
    rw [List.drop_eq_getElem_cons hqlt, List.foldl_cons] at hR
    have hr : rd (s.getD j []) (q : Int) = (s.getD j [])[q] := rd_nat _ q hqlt
    have hw : (wstep but (j : Int) st (s.getD j [])[q]).1.length = s.length := by
      unfold wstep
      split
      · simp [hl]
      · exact hl
    have ih := w_l2 j hj R m (q + 1) (wstep but (j : Int) st (s.getD j [])[q]) (by omega) (by omega) hw hR
    refine Ev.succ (Ev.of_eq ih fun k => ?_)
    rw [balustraderef17_Without.l2, if_pos (by omega), if_pos (by omega), rdL2_getD, if_pos (by omega), if_pos (by omega), if_pos (by omega), hr, wr1 q (by omega)]
    unfold wstep
    by_cases h1 : rdOf false st.1 (j : Int) = true
    · rw [if_pos h1]
      by_cases h2 : (s.getD j [])[q] = but
      · rw [if_pos h2, if_neg (fun h => h.2.1 h2)]
      · rw [if_neg h2, if_pos ht.1, if_pos (by omega)]
        by_cases h3 : rdOf false st.1 (s.getD j [])[q] = true
        · rw [if_pos h3, if_neg (fun h => by rw [h.2.2] at h3; exact absurd h3 (by simp))]
        · rw [if_neg h3, if_pos ⟨h1, h2, by simpa using h3⟩]
    · rw [if_neg h1, if_neg (fun h => h1 h.1)]
include hok hs hrow in
theorem w_l1 (R : List Bool) : ∀ (m j : Nat) (st : List Bool × Bool), j + m = s.length → st.1.length = s.length →
    Ev (fun k => balustraderef17_Without.l0 k but s (wpass s but m j st).1 (wpass s but m j st).2) R → Ev (fun k => balustraderef17_Without.l1 k but s st.1 st.2 (j : Int)) R
  | 0, j, st, hj, hl, hR => Ev.succ (Ev.of_eq hR fun k => by rw [balustraderef17_Without.l1, if_neg (by omega)]; rfl)
  | m + 1, j, st, hj, hl, hR => by
    have hg := (WG.row hok (s.getD j []) st (fun t ht => ⟨by omega, by omega, by rw [Int.toNat_natCast]; exact ht⟩) hl (but := but) (k := (j : Int))).1
    have ih := w_l1 R m (j + 1) ((s.getD j []).foldl (wstep but (j : Int)) st) (by omega) (hg.len.trans hl) hR
    have h2 := w_l2 hok hs hrow but j (by omega) R _ 0 st rfl (by omega) hl (by rw [List.drop_zero]; exact ih)
    exact Ev.succ (Ev.of_eq h2 fun k => by rw [balustraderef17_Without.l1, if_pos (by omega)]; rfl)
include hok hs hrow in
theorem w_l0 : ∀ (n : Nat) (st : List Bool × Bool), st.1.count false < n → st.1.length = s.length → (∀ i, 0 ≤ i → i < (s.length : Int) → rdOf false st.1 i = true → Rc s but i) → (st.2 = false → ∀ i t, E s i t → rdOf false st.1 i = true → t ≠ but → rdOf false st.1 t = true) →
    ∃ out, Ev (fun k => balustraderef17_Without.l0 k but s st.1 st.2) out ∧ out.length = s.length ∧ (∀ i, 0 ≤ i → rdOf false st.1 i = true → rdOf false out i = true) ∧ (∀ i, 0 ≤ i → i < (s.length : Int) → rdOf false out i = true → Rc s but i) ∧ ∀ i t, E s i t → rdOf false out i = true → t ≠ but → rdOf false out t = true
  | 0, st, h, _, _, _ => absurd h (by omega)
  | n + 1, (o, ch), h, hl, hs0, hc => by
    cases ch with
    | false => exact ⟨o, Ev.succ (Ev.of_eq (Ev.const _) fun k => by rw [balustraderef17_Without.l0, if_neg (by simp)]), hl, fun _ _ h => h, hs0, hc rfl⟩
    | true =>
      obtain ⟨g, c⟩ := WG.pass hok s.length 0 (o, false) (by omega) hl (but := but)
      have fin : ∃ out, Ev (fun k => balustraderef17_Without.l0 k but s (wpass s but s.length 0 (o, false)).1 (wpass s but s.length 0 (o, false)).2) out ∧ out.length = s.length ∧ (∀ i, 0 ≤ i → rdOf false o i = true → rdOf false out i = true) ∧ (∀ i, 0 ≤ i → i < (s.length : Int) → rdOf false out i = true → Rc s but i) ∧ ∀ i t, E s i t → rdOf false out i = true → t ≠ but → rdOf false out t = true := by
        cases hch : (wpass s but s.length 0 (o, false)).2 with
        | false =>
          have e := g.same hch
          rw [e]
          refine ⟨o, Ev.succ (Ev.of_eq (Ev.const _) fun k => by rw [balustraderef17_Without.l0, if_neg (by simp)]), hl, fun _ _ h => h, hs0, fun i t he => c hch i t (by have := he.1; omega) he⟩
        | true =>
          have hlt := g.less rfl hch
          have := w_l0 n (wpass s but s.length 0 (o, false)) (by show _ < n; have h' : o.count false < n + 1 := h; have hlt' : _ < o.count false := hlt; omega) (g.len.trans hl) (g.sound hs0) (fun h => by rw [hch] at h; exact absurd h (by simp))
          obtain ⟨out, e1, e2, e3, e4, e5⟩ := this
          rw [hch] at e1
          exact ⟨out, e1, e2, fun i hi h => e3 i hi (g.mono i hi h), e4, e5⟩
      obtain ⟨out, e1, e2, e3, e4, e5⟩ := fin
      have h1 := w_l1 hok hs hrow but out s.length 0 (o, false) (by omega) hl e1
      exact ⟨out, Ev.succ (Ev.of_eq h1 fun k => by rw [balustraderef17_Without.l0, if_pos rfl]; rfl), e2, e3, e4, e5⟩
end
theorem edges_row (bs : List (List (S50))) (j : Nat) : ((edges bs).getD j []).length ≤ 1000000 := by
  by_cases h : j < bs.length
  · rw [edges_get bs j h]
    have := erow_len bs.length bs[j]
    omega
  · rw [List.getD_eq_getElem?_getD, List.getElem?_eq_none (by rw [edges_len]; omega)]
    simp
/-- The reference's Without. -/
theorem rwithout_ev (bs : List (List (S50))) (a0 : ByteArray) (a1 a2 : Int) (l3 : List Int) (hB : BOk bs) (but : Int) :
    ∃ out, Ev (fun k => balustraderef17_Without.f k a0 a1 a2 l3 bs but) out ∧ out.length = bs.length ∧ ∀ i, 0 ≤ i → i < (bs.length : Int) → (rdOf false out i = true ↔ Rc (edges bs) but i) := by
  have hn := hB.n
  have hl := edges_len bs
  have hok := edges_ok bs
  have hrepF : ∀ i : Int, rdOf false (List.replicate (edges bs).length false) i = false := by
    intro i
    unfold rdOf
    simp only [List.getD, List.getElem?_replicate]
    split <;> rfl
  have fin : ∀ (o : List Bool) (ch : Bool), o.length = (edges bs).length → (∀ i, 0 ≤ i → i < ((edges bs).length : Int) → rdOf false o i = true → Rc (edges bs) but i) → ((0 : Int) ≠ but → 0 < bs.length → rdOf false o 0 = true) → (ch = false → ∀ i t, E (edges bs) i t → rdOf false o i = true → t ≠ but → rdOf false o t = true) →
      ∃ out, Ev (fun k => balustraderef17_Without.l0 k but (edges bs) o ch) out ∧ out.length = bs.length ∧ ∀ i, 0 ≤ i → i < (bs.length : Int) → (rdOf false out i = true ↔ Rc (edges bs) but i) := fun o ch h1 h2 h3 h4 => by
    obtain ⟨out, e1, e2, e3, e4, e5⟩ := w_l0 hok (by omega) (edges_row bs) but _ (o, ch) (Nat.lt_succ_self _) h1 h2 h4
    refine ⟨out, e1, by omega, fun i h0 hi => ⟨fun h => e4 i h0 (by omega) h, fun h => ?_⟩⟩
    exact Rc.ind (P := fun i => rdOf false out i = true) (fun h0 => e3 0 (by omega) (h3 h0 (by omega))) (fun a b _ hp e hb => e5 a b e hp hb) h
  have go : ∃ out, Ev (fun k => (if ((edges bs).length : Int) > 0 then (balustraderef17_Without.j0 k but (edges bs) (List.replicate (edges bs).length false) (but != 0)) else (balustraderef17_Without.j0 k but (edges bs) (List.replicate (edges bs).length false) false))) out ∧ out.length = bs.length ∧ ∀ i, 0 ≤ i → i < (bs.length : Int) → (rdOf false out i = true ↔ Rc (edges bs) but i) := by
    have none : (∀ i, 0 ≤ i → i < (bs.length : Int) → ¬ Rc (edges bs) but i) → ∃ out, Ev (fun k => balustraderef17_Without.j0 k but (edges bs) (List.replicate (edges bs).length false) false) out ∧ out.length = bs.length ∧ ∀ i, 0 ≤ i → i < (bs.length : Int) → (rdOf false out i = true ↔ Rc (edges bs) but i) := fun hno => by
      refine ⟨List.replicate (edges bs).length false, ?_, by simp [hl], fun i h0 h1 => ⟨fun h => by rw [hrepF] at h; exact absurd h (by simp), fun h => absurd h (hno i h0 h1)⟩⟩
      refine Ev.succ (Ev.succ (Ev.succ (Ev.of_eq (Ev.const _) fun k => ?_)))
      rw [balustraderef17_Without.j0, if_neg (by simp), balustraderef17_Without.j1, balustraderef17_Without.l0, if_neg (by simp)]
    by_cases h0 : 0 < bs.length
    · by_cases hb : but = 0
      · obtain ⟨out, e1, e2⟩ := none (fun i _ _ h => by
          subst hb
          exact Rc.ind (P := fun _ => False) (fun h => h rfl) (fun _ _ _ h _ _ => h) h)
        refine ⟨out, Ev.of_eq e1 fun k => ?_, e2⟩
        rw [if_pos (by omega), hb]
        rfl
      · have hset : ∀ i, 0 ≤ i → rdOf false ((List.replicate (edges bs).length false).set (0 : Int).toNat true) i = if i = 0 then true else false := fun i hi => by
          rw [rdOf_set (by omega) (by simp; omega) hi, hrepF]
        obtain ⟨out, e1, e2⟩ := fin ((List.replicate (edges bs).length false).set (0 : Int).toNat true) true (by simp) (fun i h0 h1 h => by
          rw [hset i h0] at h
          split at h
          · rename_i e; subst e; exact Rc.zero (fun h => hb h.symm)
          · exact absurd h (by simp)) (fun _ _ => by rw [hset 0 (by omega), if_pos rfl]) (fun h => absurd h (by simp))
        refine ⟨out, Ev.succ (Ev.succ (Ev.of_eq e1 fun k => ?_)), e2⟩
        rw [if_pos (by omega), show (but != 0) = true from by simp [hb], balustraderef17_Without.j0, if_pos rfl, if_pos (by simp; omega), balustraderef17_Without.j1]
    · obtain ⟨out, e1, e2⟩ := none (fun i h1 h2 => by omega)
      exact ⟨out, Ev.of_eq e1 fun k => by rw [if_neg (by omega)], e2⟩
  obtain ⟨out, e1, e2⟩ := go
  refine ⟨out, ?_, e2⟩
  unfold balustraderef17_Without.f
  refine Ev.bind (rsuccs_ev a0 a1 a2 l3 bs hB) (Ev.of_eq e1 fun k => ?_)
  rw [if_pos (by omega), if_pos (by omega)]
  rfl
theorem rreach_ev (bs : List (List (S50))) (a0 : ByteArray) (a1 a2 : Int) (l3 : List Int) (hB : BOk bs) :
    ∃ out, Ev (fun k => balustraderef17_Reach.f k a0 a1 a2 l3 bs) out ∧ out.length = bs.length ∧ ∀ i, 0 ≤ i → i < (bs.length : Int) → (rdOf false out i = true ↔ Rc (edges bs) (-1) i) := by
  obtain ⟨out, e1, e2⟩ := rwithout_ev bs a0 a1 a2 l3 hB (-1)
  exact ⟨out, by unfold balustraderef17_Reach.f; exact Ev.bind e1 (Ev.const _), e2⟩
end Go.Proofs.Ytjibojmbhbaneaa.PRm
