/- Plain laws of the printed functions that only read: enough rounds tell. -/
import Derived.Test.YtjibojmbhbaneaaPRmx6
namespace Go.Proofs.Ytjibojmbhbaneaa.PRm
open Go.RowKit Go.Proofs.YtjibojmbhbaneaaW.PrintWords Go.Proofs.YtjibojmbhbaneaaW.PrintLast Go.Proofs.YtjibojmbhbaneaaW.PrintMore Go.Proofs.Ytjibojmbhbaneaa.X
set_option linter.unusedVariables false
set_option linter.unusedSimpArgs false

/-- With enough rounds f tells r. -/
def Ev {α : Type} (f : Nat → Option α) (r : α) : Prop := ∃ K, ∀ k, K ≤ k → f k = some r
theorem Ev.const {α : Type} (r : α) : Ev (fun _ => some r) r := ⟨0, fun _ _ => rfl⟩
theorem Ev.succ {α : Type} {f : Nat → Option α} {r : α} (h : Ev (fun k => f (k + 1)) r) : Ev f r := by
  obtain ⟨K, h⟩ := h
  refine ⟨K + 1, fun k hk => ?_⟩
  obtain ⟨n, rfl⟩ := Nat.exists_eq_add_of_le (show 1 ≤ k by omega)
  rw [Nat.add_comm]
  exact h n (by omega)
theorem Ev.bind {α β : Type} {f : Nat → Option α} {g : Nat → α → Option β} {a : α} {r : β} (h1 : Ev f a) (h2 : Ev (fun k => g k a) r) : Ev (fun k => (f k).bind (g k)) r := by
  obtain ⟨K, h1⟩ := h1
  obtain ⟨L, h2⟩ := h2
  refine ⟨max K L, fun k hk => ?_⟩
  have e1 := h1 k (by omega)
  have e2 : g k a = some r := h2 k (by omega)
  show (f k).bind (g k) = some r
  rw [e1]
  exact e2
theorem Ev.of_eq {α : Type} {f g : Nat → Option α} {r : α} (h : Ev g r) (e : ∀ k, f k = g k) : Ev f r := by
  obtain ⟨K, h⟩ := h
  exact ⟨K, fun k hk => (e k).trans (h k hk)⟩

theorem wr1 (j : Nat) (h : j < 9223372036854775807) : wrap64 ((j : Int) + 1) = ((j + 1 : Nat) : Int) := by unfold wrap64; omega
theorem rd_nat (x : List Int) (j : Nat) (h : j < x.length) : rd x (j : Int) = x[j] := by simp [rd, List.getD, h]

theorem HasInt_l (x : List Int) (v : Int) (hx : x.length ≤ 9223372036854775807) : ∀ m j, m = x.length - j → j ≤ x.length → Ev (fun k => balustradebase_HasInt.l0 k x v (j : Int)) (decide (v ∈ x.drop j))
  | 0, j, hm, hj => by
    refine Ev.succ (Ev.of_eq (Ev.const _) fun k => ?_)
    have : ¬ (j : Int) < (x.length : Int) := by omega
    rw [balustradebase_HasInt.l0, if_neg this, List.drop_eq_nil_of_le (by omega)]
    simp
  | m + 1, j, hm, hj => by
    have h1 : (j : Int) < (x.length : Int) := by omega
    have h2 : (0 : Int) ≤ (j : Int) := by omega
    have hlt : j < x.length := by omega
    refine Ev.succ ?_
    by_cases h : x[j] = v
    · refine Ev.of_eq (Ev.const _) fun k => ?_
      rw [balustradebase_HasInt.l0, if_pos h1, if_pos h2, rd_nat x j hlt, if_pos h, List.drop_eq_getElem_cons hlt]
      simp [h]
    · have ih := HasInt_l x v hx m (j + 1) (by omega) (by omega)
      rw [List.drop_eq_getElem_cons hlt, show decide (v ∈ x[j] :: x.drop (j + 1)) = decide (v ∈ x.drop (j + 1)) from by rw [decide_eq_decide, List.mem_cons]; exact or_iff_right (fun e => h e.symm)]
      refine Ev.of_eq ih fun k => ?_
      rw [balustradebase_HasInt.l0, if_pos h1, if_pos h2, rd_nat x j hlt, if_neg h, wr1 j (by omega)]
theorem HasInt_ev (x : List Int) (v : Int) (hx : x.length ≤ 9223372036854775807) : Ev (fun k => balustradebase_HasInt.f k x v) (decide (v ∈ x)) := by
  have := HasInt_l x v hx _ 0 rfl (by omega)
  simpa [balustradebase_HasInt.f] using this

theorem SameInts_l (x : List Int) (hx : x.length ≤ 9223372036854775807) : ∀ m j, m = x.length - j → j ≤ x.length → Ev (fun k => balustradebase_SameInts.l0 k x x (j : Int)) true
  | 0, j, hm, hj => by
    refine Ev.succ (Ev.of_eq (Ev.const _) fun k => ?_)
    have : ¬ (j : Int) < (x.length : Int) := by omega
    rw [balustradebase_SameInts.l0, if_neg this]
  | m + 1, j, hm, hj => by
    have h1 : (j : Int) < (x.length : Int) := by omega
    have h2 : (0 : Int) ≤ (j : Int) := by omega
    refine Ev.succ (Ev.of_eq (SameInts_l x hx m (j + 1) (by omega) (by omega)) fun k => ?_)
    rw [balustradebase_SameInts.l0, if_pos h1, if_pos h2, if_pos h1, if_pos rfl, wr1 j (by omega)]
theorem SameInts_ev (x : List Int) (hx : x.length ≤ 9223372036854775807) : Ev (fun k => balustradebase_SameInts.f k x x) true := by
  refine Ev.of_eq (SameInts_l x hx _ 0 rfl (by omega)) fun k => ?_
  rw [balustradebase_SameInts.f, if_pos rfl]
  rfl

theorem Ints_eq (l : List Int) (h : l.length < 17592186044416) : balustradebase_Ints.f l = some l := by
  simp [balustradebase_Ints.f, h]

/-- One number put into a row in ascending order. -/
theorem Sorted_l1 (x0 s : List Int) (i : Nat) (v : Int) (hi : i < x0.length) (hv : x0[i] = v) (hx : x0.length < 17592186044415) (hs : s.length < 17592186044415) : ∀ n j, n = s.length - j → j ≤ s.length → (∀ y ∈ s.take j, y < v) →
    ∃ m, m ≤ s.length ∧ (∀ y ∈ s.take m, y < v) ∧ (∀ h : m < s.length, ¬ s[m] < v) ∧ ∀ R, Ev (fun k => balustradebase_Sorted.l0 k x0 (s.take m ++ [v] ++ s.drop m) ((i + 1 : Nat) : Int)) R → Ev (fun k => balustradebase_Sorted.l1 k x0 s (i : Int) (s.take j) (j : Int)) R := by
  have hi1 : (i : Int) < (x0.length : Int) := by omega
  have hi0 : (0 : Int) ≤ (i : Int) := by omega
  have hri : rd x0 (i : Int) = v := by rw [rd_nat x0 i hi, hv]
  intro n
  induction n with
  | zero =>
    intro j hn hj hall
    have hjl : j = s.length := by omega
    subst hjl
    refine ⟨s.length, Nat.le_refl _, hall, fun h => by omega, fun R hR => Ev.succ (Ev.of_eq hR fun k => ?_)⟩
    have h1 : ¬ (s.length : Int) < (s.length : Int) := by omega
    have h3 : s.length < 17592186044416 := by omega
    have h4 : (0 : Int) ≤ (s.length : Int) := by omega
    rw [balustradebase_Sorted.l1, if_neg h1, if_pos hi0, if_pos hi1, hri]
    simp only [List.take_length, List.drop_length, List.append_nil, h3, if_true, Option.bind_some, h4, Int.le_refl, Int.toNat_natCast, wr1 i (by omega), List.length_append, List.length_cons, List.length_nil]
    rw [if_pos (by omega)]
  | succ n ih =>
    intro j hn hj hall
    have hlt : j < s.length := by omega
    have h1 : (j : Int) < (s.length : Int) := by omega
    have h2 : (0 : Int) ≤ (j : Int) := by omega
    have htl : (s.take j).length = j := by rw [List.length_take]; omega
    have h3 : (s.take j).length < 17592186044416 := by omega
    by_cases hsv : s[j] < v
    · obtain ⟨m, m1, m2, m3, m4⟩ := ih (j + 1) (by omega) (by omega) (by
        intro y hy
        rw [List.take_add_one, List.getElem?_eq_getElem hlt, Option.toList_some, List.mem_append, List.mem_singleton] at hy
        rcases hy with hy | rfl
        · exact hall y hy
        · exact hsv)
      refine ⟨m, m1, m2, m3, fun R hR => Ev.succ (Ev.of_eq (m4 R hR) fun k => ?_)⟩
      rw [balustradebase_Sorted.l1, if_pos h1, if_pos h2, if_pos hi0, if_pos hi1, hri, rd_nat s j hlt, if_pos hsv, if_pos h3, wr1 j (by omega)]
      rw [List.take_add_one, List.getElem?_eq_getElem hlt]
      rfl
    · refine ⟨j, hj, hall, fun _ => hsv, fun R hR => Ev.succ (Ev.of_eq hR fun k => ?_)⟩
      have h5 : ((s.take j).length : Int) ≤ (s.length : Int) := by omega
      have h6 : (0 : Int) ≤ ((s.take j).length : Int) := by omega
      have h7 : (j : Int) ≤ (s.length : Int) := by omega
      rw [balustradebase_Sorted.l1, if_pos h1, if_pos h2, if_pos hi0, if_pos hi1, hri, rd_nat s j hlt, if_neg hsv, if_pos h3]
      simp only [Option.bind_some, htl, h2, h7, if_true, Int.toNat_natCast, wr1 i (by omega)]
      rw [if_pos (by simp; omega)]

theorem asc_ins {s : List Int} {v : Int} {m : Nat} (hs : s.Pairwise (· < ·)) (hv : v ∉ s) (h2 : ∀ y ∈ s.take m, y < v) (h3 : ∀ h : m < s.length, ¬ s[m] < v) : (s.take m ++ [v] ++ s.drop m).Pairwise (· < ·) := by
  have h4 : ∀ y ∈ s.drop m, v < y := by
    intro y hy
    rcases Nat.lt_or_ge m s.length with hm | hm
    · rw [List.drop_eq_getElem_cons hm] at hy
      have hp : (s.drop m).Pairwise (· < ·) := hs.sublist (List.drop_sublist _ _)
      rw [List.drop_eq_getElem_cons hm, List.pairwise_cons] at hp
      have h5 := h3 hm
      have h6 : s[m] ≠ v := fun e => hv (e ▸ List.getElem_mem hm)
      rcases List.mem_cons.1 hy with rfl | hy
      · omega
      · have := hp.1 y hy; omega
    · rw [List.drop_eq_nil_of_le hm] at hy
      cases hy
  rw [List.append_assoc, List.pairwise_append]
  refine ⟨hs.sublist (List.take_sublist _ _), ?_, fun a ha b hb => ?_⟩
  · rw [List.singleton_append, List.pairwise_cons]
    exact ⟨h4, hs.sublist (List.drop_sublist _ _)⟩
  · rw [List.singleton_append] at hb
    have h7 := h2 a ha
    rcases List.mem_cons.1 hb with rfl | hb
    · exact h7
    · have := h4 b hb; omega

theorem Sorted_l0 (x0 : List Int) (hx : x0.length < 17592186044415) : ∀ n i s, n = x0.length - i → i ≤ x0.length → s.length ≤ i → s.Pairwise (· < ·) → (∀ y, y ∈ s ↔ y ∈ x0.take i) →
    ∃ r : List Int, Ev (fun k => balustradebase_Sorted.l0 k x0 s (i : Int)) r ∧ r.Pairwise (· < ·) ∧ r.length ≤ x0.length ∧ ∀ y, y ∈ r ↔ y ∈ x0 := by
  intro n
  induction n with
  | zero =>
    intro i s hn hi hsl hp hm
    have : i = x0.length := by omega
    subst this
    refine ⟨s, Ev.succ (Ev.of_eq (Ev.const _) fun k => ?_), hp, hsl, by simpa using hm⟩
    rw [balustradebase_Sorted.l0, if_neg (by omega)]
  | succ n ih =>
    intro i s hn hi hsl hp hm
    have hlt : i < x0.length := by omega
    have hi1 : (i : Int) < (x0.length : Int) := by omega
    have hi0 : (0 : Int) ≤ (i : Int) := by omega
    have hri : rd x0 (i : Int) = x0[i] := rd_nat x0 i hlt
    have htk : ∀ y, y ∈ x0.take (i + 1) ↔ y ∈ x0.take i ∨ y = x0[i] := by
      intro y
      rw [List.take_add_one, List.getElem?_eq_getElem hlt, Option.toList_some, List.mem_append, List.mem_singleton]
    by_cases hmem : x0[i] ∈ s
    · obtain ⟨r, r1, r2⟩ := ih (i + 1) s (by omega) (by omega) (by omega) hp (by
        intro y
        rw [htk, hm]
        constructor
        · exact .inl
        · rintro (h | rfl)
          · exact h
          · exact (hm _).1 hmem)
      refine ⟨r, Ev.succ (Ev.of_eq (Ev.bind (g := fun k t => if t = true then balustradebase_Sorted.l0 k x0 s (wrap64 ((i : Int) + 1)) else balustradebase_Sorted.l1 k x0 s (i : Int) [] 0) (HasInt_ev s x0[i] (by omega)) ?_) fun k => ?_), r2⟩
      · simp only [hmem, decide_true, if_true, wr1 i (by omega)]
        exact r1
      · rw [balustradebase_Sorted.l0, if_pos hi1, if_pos hi0, hri]
    · obtain ⟨m, m1, m2, m3, m4⟩ := Sorted_l1 x0 s i x0[i] hlt rfl hx (by omega) _ 0 rfl (by omega) (by simp)
      obtain ⟨r, r1, r2⟩ := ih (i + 1) (s.take m ++ [x0[i]] ++ s.drop m) (by omega) (by omega) (by simp; omega) (asc_ins hp hmem m2 m3) (by
        intro y
        rw [htk, ← hm]
        rw [show (y ∈ s) = (y ∈ s.take m ++ s.drop m) by rw [List.take_append_drop]]
        simp only [List.mem_append, List.mem_singleton]
        constructor
        · rintro ((h | h) | h)
          · exact .inl (.inl h)
          · exact .inr h
          · exact .inl (.inr h)
        · rintro ((h | h) | h)
          · exact .inl (.inl h)
          · exact .inr h
          · exact .inl (.inr h))
      refine ⟨r, Ev.succ (Ev.of_eq (Ev.bind (g := fun k t => if t = true then balustradebase_Sorted.l0 k x0 s (wrap64 ((i : Int) + 1)) else balustradebase_Sorted.l1 k x0 s (i : Int) [] 0) (HasInt_ev s x0[i] (by omega)) ?_) fun k => ?_), r2⟩
      · simp only [hmem, decide_false, Bool.false_eq_true, if_false]
        have := m4 r r1
        simpa using this
      · rw [balustradebase_Sorted.l0, if_pos hi1, if_pos hi0, hri]
theorem Sorted_ev (x : List Int) (hx : x.length < 17592186044415) : ∃ r : List Int, Ev (fun k => balustradebase_Sorted.f k x) r ∧ r.Pairwise (· < ·) ∧ r.length ≤ x.length ∧ ∀ y, y ∈ r ↔ y ∈ x := by
  have := Sorted_l0 x hx _ 0 [] rfl (by omega) (by simp) List.Pairwise.nil (by simp)
  simpa [balustradebase_Sorted.f] using this
/-- Two ascending rows with the same members are one. -/
theorem asc_eq {a b : List Int} (ha : a.Pairwise (· < ·)) (hb : b.Pairwise (· < ·)) (h : ∀ y, y ∈ a ↔ y ∈ b) : a = b := by
  have na : a.Nodup := ha.imp (fun h => by omega)
  have nb : b.Nodup := hb.imp (fun h => by omega)
  have hp : a.Perm b := (List.perm_ext_iff_of_nodup na nb).2 h
  exact hp.eq_of_pairwise (fun x y _ _ h1 h2 => by omega) ha hb
end Go.Proofs.Ytjibojmbhbaneaa.PRm
