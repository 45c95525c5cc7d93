/- Plain law: going through blocks depth first; the tree of next dominators is right. -/
import Derived.Test.YtjibojmbhbaneaaXTree
namespace Go.Proofs.Ytjibojmbhbaneaa.Dm
open Go.RowKit Go.Proofs.YtjibojmbhbaneaaW.PrintWords Go.Proofs.YtjibojmbhbaneaaW.PrintLast Go.Proofs.Ytjibojmbhbaneaa.PRm
set_option linter.unusedVariables false
set_option linter.unusedSimpArgs false
/-- An edge. -/
def E (s : List (List Int)) (a b : Int) : Prop := 0 ≤ a ∧ a < (s.length : Int) ∧ b ∈ s.getD a.toNat []
/-- All edges lead to blocks. -/
def EOk (s : List (List Int)) : Prop := ∀ a b, E s a b → 0 ≤ b ∧ b < (s.length : Int)
/-- Reached from block 0 on by at most so many edges, not through one. -/
inductive RL (s : List (List Int)) (but : Int) : Nat → Int → Prop where
  | base (r : Nat) : (0 : Int) ≠ but → RL s but r 0
  | step (r : Nat) (a b : Int) : RL s but r a → E s a b → b ≠ but → RL s but (r + 1) b
def Rc (s : List (List Int)) (but b : Int) : Prop := ∃ r, RL s but r b
theorem Rc.zero {s : List (List Int)} {but : Int} (h : (0 : Int) ≠ but) : Rc s but 0 := ⟨0, .base 0 h⟩
theorem Rc.next {s : List (List Int)} {but a b : Int} (h : Rc s but a) (e : E s a b) (hb : b ≠ but) : Rc s but b := by
  obtain ⟨r, h⟩ := h
  exact ⟨r + 1, .step r a b h e hb⟩
theorem Rc.ind {s : List (List Int)} {but : Int} {P : Int → Prop} (h0 : (0 : Int) ≠ but → P 0) (h1 : ∀ a b, Rc s but a → P a → E s a b → b ≠ but → P b) {b : Int} (h : Rc s but b) : P b := by
  obtain ⟨r, h⟩ := h
  induction h with
  | base r h => exact h0 h
  | step r a b h e hb ih => exact h1 a b ⟨r, h⟩ ih e hb
theorem rdOf_set {seen : List Bool} {x i : Int} (hx : 0 ≤ x) (hl : x < (seen.length : Int)) (hi : 0 ≤ i) (d v : Bool) : rdOf d (seen.set x.toNat v) i = if i = x then v else rdOf d seen i := by
  unfold rdOf
  by_cases e : i = x
  · subst e
    have : i.toNat < seen.length := by omega
    simp [List.getD, this]
  · have : x.toNat ≠ i.toNat := by omega
    simp [List.getD, this, e]
theorem count_set {seen : List Bool} {x : Int} (hx : 0 ≤ x) (hl : x < (seen.length : Int)) (h : rdOf false seen x = false) : (seen.set x.toNat true).count false + 1 = seen.count false := by
  have hlt : x.toNat < seen.length := by omega
  have h1 : seen[x.toNat] = false := by
    unfold rdOf at h
    simpa [List.getD, hlt] using h
  have h2 := List.take_append_drop x.toNat seen
  rw [List.set_eq_take_append_cons_drop, if_pos hlt]
  conv => rhs; rw [← h2, List.drop_eq_getElem_cons hlt, h1]
  simp [List.count_append]
  omega
structure FSpec (s : List (List Int)) (but : Int) (roots : List Int) (seen seen' : List Bool) (new : List Int) : Prop where
  len : seen'.length = seen.length
  cnt : seen'.count false + new.length = seen.count false
  iff : ∀ i, 0 ≤ i → (rdOf false seen' i = true ↔ rdOf false seen i = true ∨ i ∈ new)
  fresh : ∀ i, i ∈ new → 0 ≤ i ∧ i < (s.length : Int) ∧ rdOf false seen i = false ∧ i ≠ but
  nodup : new.Nodup
  closed : ∀ i, i ∈ new → ∀ t, E s i t → t ≠ but → rdOf false seen' t = true
  rp : ∀ l1 b l2, new = l1 ++ b :: l2 → b ∈ roots ∨ ∃ p, p ∈ l2 ∧ E s p b
  has : ∀ t, t ∈ roots → t ≠ but → rdOf false seen' t = true
  rch : (∀ t, t ∈ roots → t ≠ but → Rc s but t) → ∀ i, i ∈ new → Rc s but i
theorem FSpec.nil (s : List (List Int)) (but : Int) (seen : List Bool) : FSpec s but [] seen seen [] :=
  ⟨rfl, by simp, by simp, by simp, by simp, by simp, by simp, by simp, by simp⟩
theorem FSpec.append {s : List (List Int)} {but : Int} (hok : EOk s) {r1 r2 : List Int} {s0 s1 s2 : List Bool} {n1 n2 : List Int} (hr1 : ∀ t, t ∈ r1 → 0 ≤ t) (h1 : FSpec s but r1 s0 s1 n1) (h2 : FSpec s but r2 s1 s2 n2) : FSpec s but (r1 ++ r2) s0 s2 (n1 ++ n2) := by
  have m1 : ∀ i, 0 ≤ i → rdOf false s1 i = true → rdOf false s2 i = true := fun i hi h => (h2.iff i hi).2 (.inl h)
  refine ⟨h2.len.trans h1.len, ?_, ?_, ?_, ?_, ?_, ?_, ?_, ?_⟩
  · have a := h1.cnt
    have b := h2.cnt
    rw [List.length_append]
    omega
  · intro i hi
    rw [h2.iff i hi, h1.iff i hi, List.mem_append]
    exact or_assoc
  · intro i hi
    rcases List.mem_append.1 hi with hi | hi
    · exact h1.fresh i hi
    · obtain ⟨a, b, c, d⟩ := h2.fresh i hi
      refine ⟨a, b, ?_, d⟩
      cases e : rdOf false s0 i with
      | false => rfl
      | true =>
        have := (h1.iff i a).2 (.inl e)
        rw [c] at this
        exact absurd this (by simp)
  · refine List.nodup_append.2 ⟨h1.nodup, h2.nodup, fun a ha b hb e => ?_⟩
    subst e
    obtain ⟨p, q, c, d⟩ := h2.fresh a hb
    have := (h1.iff a p).2 (.inr ha)
    rw [c] at this
    exact absurd this (by simp)
  · intro i hi t e ht
    rcases List.mem_append.1 hi with hi | hi
    · exact m1 t (hok _ _ e).1 (h1.closed i hi t e ht)
    · exact h2.closed i hi t e ht
  · intro l1 b l2 e
    rcases List.append_eq_append_iff.1 e with ⟨a', e1, e2⟩ | ⟨c', e1, e2⟩
    · rcases h2.rp a' b l2 e2 with h | h
      · exact .inl (List.mem_append.2 (.inr h))
      · exact .inr h
    · cases c' with
      | nil =>
        simp only [List.nil_append] at e2
        rcases h2.rp [] b l2 e2.symm with h | h
        · exact .inl (List.mem_append.2 (.inr h))
        · exact .inr h
      | cons c cs =>
        simp only [List.cons_append, List.cons.injEq] at e2
        obtain ⟨rfl, rfl⟩ := e2
        rcases h1.rp l1 b cs e1 with h | ⟨p, hp, he⟩
        · exact .inl (List.mem_append.2 (.inl h))
        · exact .inr ⟨p, List.mem_append.2 (.inl hp), he⟩
  · intro t ht hb
    rcases List.mem_append.1 ht with ht | ht
    · exact m1 t (hr1 t ht) (h1.has t ht hb)
    · exact h2.has t ht hb
  · intro h i hi
    rcases List.mem_append.1 hi with hi | hi
    · exact h1.rch (fun t ht => h t (List.mem_append.2 (.inl ht))) i hi
    · exact h2.rch (fun t ht => h t (List.mem_append.2 (.inr ht))) i hi
theorem FSpec.wrap {s : List (List Int)} {but x : Int} {seen seen' : List Bool} {new : List Int} (hx : 0 ≤ x) (hl : x < (s.length : Int)) (hb : x ≠ but) (hlen : seen.length = s.length) (hs : rdOf false seen x = false)
    (h : FSpec s but (s.getD x.toNat []) (seen.set x.toNat true) seen' new) : FSpec s but [x] seen seen' (new ++ [x]) := by
  have hl' : x < (seen.length : Int) := by omega
  have hE : ∀ t, t ∈ s.getD x.toNat [] → E s x t := fun t ht => ⟨hx, hl, ht⟩
  have hxs : rdOf false seen' x = true := (h.iff x hx).2 (.inl (by rw [rdOf_set hx hl' hx, if_pos rfl]))
  have hn : x ∉ new := fun hi => by
    have := (h.fresh x hi).2.2.1
    rw [rdOf_set hx hl' hx, if_pos rfl] at this
    exact absurd this (by simp)
  refine ⟨h.len.trans (by simp), ?_, ?_, ?_, ?_, ?_, ?_, ?_, ?_⟩
  · have a := h.cnt
    have b := count_set hx hl' hs
    simp
    omega
  · intro i hi
    rw [h.iff i hi, rdOf_set hx hl' hi, List.mem_append, List.mem_singleton]
    by_cases e : i = x
    · simp [e]
    · simp [e]
  · intro i hi
    rcases List.mem_append.1 hi with hi | hi
    · obtain ⟨a, b, c, d⟩ := h.fresh i hi
      refine ⟨a, b, ?_, d⟩
      rw [rdOf_set hx hl' a] at c
      by_cases e : i = x
      · rw [if_pos e] at c; exact absurd c (by simp)
      · rw [if_neg e] at c; exact c
    · rw [List.mem_singleton] at hi
      subst hi
      exact ⟨hx, hl, hs, hb⟩
  · refine List.nodup_append.2 ⟨h.nodup, by simp, fun a ha b hb' e => ?_⟩
    rw [List.mem_singleton] at hb'
    exact hn (by rw [← hb', ← e]; exact ha)
  · intro i hi t e ht
    rcases List.mem_append.1 hi with hi | hi
    · exact h.closed i hi t e ht
    · rw [List.mem_singleton] at hi
      subst hi
      exact h.has t e.2.2 ht
  · intro l1 b l2 e
    rcases List.append_eq_append_iff.1 e with ⟨a', e1, e2⟩ | ⟨c', e1, e2⟩
    · have hbx : b = x := by
        cases a' with
        | nil => simp at e2; exact e2.1.symm
        | cons y ys => simp at e2
      exact .inl (by simp [hbx])
    · cases c' with
      | nil =>
        simp at e2
        exact .inl (by simp [e2.1])
      | cons c cs =>
        simp only [List.cons_append, List.cons.injEq] at e2
        obtain ⟨rfl, rfl⟩ := e2
        rcases h.rp l1 b cs e1 with h | ⟨p, hp, he⟩
        · exact .inr ⟨x, by simp, hE b h⟩
        · exact .inr ⟨p, by simp [hp], he⟩
  · intro t ht hb'
    rw [List.mem_singleton] at ht
    rw [ht]
    exact hxs
  · intro hr i hi
    have hrx : Rc s but x := hr x (by simp) hb
    rcases List.mem_append.1 hi with hi | hi
    · exact h.rch (fun t ht hb' => hrx.next (hE t ht) hb') i hi
    · rw [List.mem_singleton] at hi
      subst hi
      exact hrx
theorem dfs_fold (s : List (List Int)) (but : Int) (hok : EOk s) (n : Nat)
    (ih : ∀ x seen out, 0 ≤ x → x < (s.length : Int) → seen.length = s.length → seen.count false < n → out.length + seen.count false < 17592186044415 →
      ∃ seen' new, thr.dfs s but n x (seen, out) = some (seen', out ++ new) ∧ FSpec s but [x] seen seen' new ∧ (new ≠ [] → ∃ l, new = l ++ [x])) :
    ∀ (l : List Int) seen out, (∀ t, t ∈ l → 0 ≤ t ∧ t < (s.length : Int)) → seen.length = s.length → seen.count false < n → out.length + seen.count false < 17592186044415 →
      ∃ seen' new, l.foldlM (fun st t => thr.dfs s but n t st) (seen, out) = some (seen', out ++ new) ∧ FSpec s but l seen seen' new
  | [], seen, out, _, _, _, _ => ⟨seen, [], by simp, FSpec.nil _ _ _⟩
  | t :: l, seen, out, hl, hlen, hc, ho => by
    obtain ⟨s1, n1, e1, f1, _⟩ := ih t seen out (hl t (by simp)).1 (hl t (by simp)).2 hlen hc ho
    have c1 := f1.cnt
    obtain ⟨s2, n2, e2, f2⟩ := dfs_fold s but hok n ih l s1 (out ++ n1) (fun y hy => hl y (by simp [hy])) (f1.len.trans hlen) (by omega) (by rw [List.length_append]; omega)
    refine ⟨s2, n1 ++ n2, ?_, ?_⟩
    · rw [List.foldlM_cons, e1]
      show l.foldlM (fun st t => thr.dfs s but n t st) (s1, out ++ n1) = _
      rw [e2, List.append_assoc]
    · exact FSpec.append (r1 := [t]) hok (fun y hy => (hl y (by simp at hy; simp [hy])).1) f1 f2
theorem dfs_spec (s : List (List Int)) (but : Int) (hok : EOk s) : ∀ n x seen out, 0 ≤ x → x < (s.length : Int) → seen.length = s.length → seen.count false < n → out.length + seen.count false < 17592186044415 →
      ∃ seen' new, thr.dfs s but n x (seen, out) = some (seen', out ++ new) ∧ FSpec s but [x] seen seen' new ∧ (new ≠ [] → ∃ l, new = l ++ [x])
  | 0, _, _, _, _, _, _, hc, _ => absurd hc (by omega)
  | n + 1, x, seen, out, hx, hl, hlen, hc, ho => by
    rw [thr.dfs]
    by_cases hb : x = but
    · rw [if_pos hb]
      exact ⟨seen, [], by simp, ⟨rfl, by simp, by simp, by simp, by simp, by simp, by simp, fun t ht h => absurd ((List.mem_singleton.1 ht).trans hb) h, by simp⟩, by simp⟩
    rw [if_neg hb, if_pos ⟨hx, by show x < (seen.length : Int); omega, hl⟩]
    cases hs : rdOf false seen x with
    | true =>
      rw [if_pos rfl]
      exact ⟨seen, [], by simp, ⟨rfl, by simp, by simp, by simp, by simp, by simp, by simp, fun t ht h => by rw [List.mem_singleton.1 ht]; exact hs, by simp⟩, by simp⟩
    | false =>
      rw [if_neg (by simp)]
      have hcs := count_set hx (by omega) hs
      obtain ⟨s1, n1, e1, f1⟩ := dfs_fold s but hok n (dfs_spec s but hok n) (s.getD x.toNat []) (seen.set x.toNat true) out (fun t ht => hok x t ⟨hx, hl, ht⟩) (by simp [hlen]) (by omega) (by omega)
      have c1 := f1.cnt
      refine ⟨s1, n1 ++ [x], ?_, FSpec.wrap hx hl hb hlen hs f1, fun _ => ⟨n1, rfl⟩⟩
      show Option.bind (List.foldlM _ (seen.set x.toNat true, out) _) _ = _
      rw [e1]
      show (if (out ++ n1).length < 17592186044415 then some (s1, (out ++ n1) ++ [x]) else none) = _
      rw [if_pos (by rw [List.length_append]; omega), List.append_assoc]
theorem Rc.range {s : List (List Int)} (hok : EOk s) (hn : 0 < s.length) {but b : Int} (h : Rc s but b) : 0 ≤ b ∧ b < (s.length : Int) :=
  Rc.ind (fun _ => ⟨by omega, by omega⟩) (fun a b _ _ e _ => hok a b e) h
theorem Rc.ne {s : List (List Int)} {but b : Int} (h : Rc s but b) : b ≠ but :=
  Rc.ind (P := fun b => b ≠ but) (fun h => h) (fun a b _ _ _ h => h) h
theorem go_spec (s : List (List Int)) (but : Int) (hok : EOk s) (hlen : s.length < 17592186044415) (hn : 0 < s.length) : ∃ seen out, thr.go s but = some (seen, out) ∧ seen.length = s.length ∧
    (∀ i, 0 ≤ i → i < (s.length : Int) → (rdOf false seen i = true ↔ Rc s but i)) ∧ out.Nodup ∧ (∀ i, i ∈ out ↔ Rc s but i) ∧
    (∀ l1 b l2, out = l1 ++ b :: l2 → b = 0 ∨ ∃ p, p ∈ l2 ∧ E s p b) ∧ (out ≠ [] → ∃ l, out = l ++ [0]) := by
  have hrep : ∀ i : Int, rdOf false (List.replicate s.length false) i = false := by
    intro i
    unfold rdOf
    simp only [List.getD, List.getElem?_replicate]
    split <;> rfl
  obtain ⟨seen, new, e, f, hlast⟩ := dfs_spec s but hok (s.length + 1) 0 (List.replicate s.length false) [] (by omega) (by omega) (by simp) (by simp) (by simp; omega)
  have hin : ∀ i, 0 ≤ i → (rdOf false seen i = true ↔ i ∈ new) := fun i hi => by rw [f.iff i hi, hrep]; simp
  have hcl : ∀ i, Rc s but i → i ∈ new := fun i hi => by
    refine Rc.ind (P := fun i => i ∈ new) (fun h0 => ?_) (fun a b ha hp e hb => ?_) hi
    · exact (hin 0 (by omega)).1 (f.has 0 (by simp) h0)
    · exact (hin b (hok _ _ e).1).1 (f.closed a hp b e hb)
  have hcr : ∀ i, i ∈ new → Rc s but i := f.rch (fun t ht hb => by rw [List.mem_singleton] at ht; subst ht; exact Rc.zero hb)
  refine ⟨seen, new, ?_, f.len.trans (by simp), fun i h0 h1 => ?_, f.nodup, fun i => ⟨hcr i, hcl i⟩, fun l1 b l2 e => ?_, hlast⟩
  · unfold thr.go
    rw [if_neg (by omega), e]
    rfl
  · rw [hin i h0]
    exact ⟨hcr i, hcl i⟩
  · rcases f.rp l1 b l2 e with h | h
    · exact .inl (by simpa using h)
    · exact .inr h
theorem rd_set {xs : List Int} {x i : Int} (hx : 0 ≤ x) (hl : x < (xs.length : Int)) (hi : 0 ≤ i) (v : Int) : rd (xs.set x.toNat v) i = if i = x then v else rd xs i := by
  unfold rd
  by_cases e : i = x
  · subst e
    have : i.toNat < xs.length := by omega
    simp [List.getD, this]
  · have : x.toNat ≠ i.toNat := by omega
    simp [List.getD, this, e]
theorem places_spec : ∀ (l : List Int) (i : Int) (place : List Int), (∀ b, b ∈ l → 0 ≤ b ∧ b < (place.length : Int)) → l.Nodup →
    ∃ p', dtree.places l i place = some p' ∧ p'.length = place.length ∧ (∀ b, 0 ≤ b → b ∉ l → rd p' b = rd place b) ∧ (∀ l1 b l2, l = l1 ++ b :: l2 → rd p' b = i + l1.length)
  | [], i, place, _, _ => ⟨place, rfl, rfl, fun _ _ _ => rfl, fun l1 b l2 e => absurd e (by simp)⟩
  | c :: l, i, place, h, hd => by
    obtain ⟨h0, h1⟩ := h c (by simp)
    rw [List.nodup_cons] at hd
    obtain ⟨p', e, e1, e2, e3⟩ := places_spec l (i + 1) (place.set c.toNat i) (fun b hb => by rw [List.length_set]; exact h b (by simp [hb])) hd.2
    refine ⟨p', ?_, by rw [e1, List.length_set], fun b hb hn => ?_, fun l1 b l2 e4 => ?_⟩
    · rw [dtree.places, if_pos ⟨h0, h1⟩, e]
    · rw [List.mem_cons, not_or] at hn
      rw [e2 b hb hn.2, rd_set h0 h1 hb, if_neg hn.1]
    · cases l1 with
      | nil =>
        simp only [List.nil_append, List.cons.injEq] at e4
        obtain ⟨rfl, rfl⟩ := e4
        rw [e2 c h0 hd.1, rd_set h0 h1 h0, if_pos rfl]
        simp
      | cons y ys =>
        simp only [List.cons_append, List.cons.injEq] at e4
        obtain ⟨rfl, rfl⟩ := e4
        rw [e3 ys b l2 rfl]
        simp
        omega
/-- Blocks' places in an order. -/
structure POk (s : List (List Int)) (order place : List Int) : Prop where
  plen : place.length = s.length
  mem : ∀ b, b ∈ order ↔ Rc s (-1) b
  hd : ∃ t, order = 0 :: t
  nn : ∀ b, Rc s (-1) b → 0 ≤ rd place b ∧ rd place b < (s.length : Int)
  out : ∀ b, 0 ≤ b → ¬ Rc s (-1) b → b < (s.length : Int) → rd place b = -1
  inj : ∀ a b, Rc s (-1) a → Rc s (-1) b → rd place a = rd place b → a = b
  pred : ∀ b, Rc s (-1) b → b ≠ 0 → ∃ p, Rc s (-1) p ∧ E s p b ∧ rd place p < rd place b
  asc : ∀ l1 b l2, order = l1 ++ b :: l2 → ∀ a, Rc s (-1) a → rd place a < rd place b → a ∈ l1
  nd : order.Nodup
  z : rd place 0 = 0
theorem mem_split' {l : List Int} {b : Int} (h : b ∈ l) : ∃ l1 l2, l = l1 ++ b :: l2 := List.append_of_mem h
theorem nodup_len {l : List Int} {n : Nat} (h : l.Nodup) (h1 : ∀ b, b ∈ l → 0 ≤ b ∧ b < (n : Int)) : l.length ≤ n := by
  have h2 : (l.map Int.toNat).Nodup := by
    refine List.Pairwise.map _ ?_ (List.Pairwise.and_mem.1 h)
    intro a b ⟨ha, hb, hab⟩ e
    have := h1 a ha
    have := h1 b hb
    exact hab (by omega)
  have h3 : (l.map Int.toNat) ⊆ List.range n := by
    intro x hx
    obtain ⟨b, hb, rfl⟩ := List.mem_map.1 hx
    have := h1 b hb
    exact List.mem_range.2 (by omega)
  have := h2.length_le_of_subset h3
  simpa using this
theorem place_ok (s : List (List Int)) (hok : EOk s) (hlen : s.length < 17592186044415) (hn : 0 < s.length) : ∃ seen out place, thr.go s (-1) = some (seen, out) ∧ seen.length = s.length ∧
    (∀ i, 0 ≤ i → i < (s.length : Int) → (rdOf false seen i = true ↔ Rc s (-1) i)) ∧ out.length ≤ s.length ∧
    dtree.places out.reverse 0 (List.replicate s.length (-1)) = some place ∧ POk s out.reverse place := by
  obtain ⟨seen, out, e, hl, hs, hnd, hm, hrp, hlast⟩ := go_spec s (-1) hok hlen hn
  have hr : ∀ b, b ∈ out → 0 ≤ b ∧ b < (s.length : Int) := fun b hb => ((hm b).1 hb).range hok hn
  have hnd' : out.reverse.Nodup := List.Nodup.perm hnd (List.reverse_perm out).symm
  obtain ⟨place, p1, p2, p3, p4⟩ := places_spec out.reverse 0 (List.replicate s.length (-1)) (fun b hb => by rw [List.length_replicate]; exact hr b (List.mem_reverse.1 hb)) hnd'
  have hlen' := nodup_len hnd hr
  have hm' : ∀ b, b ∈ out.reverse ↔ Rc s (-1) b := fun b => by rw [List.mem_reverse]; exact hm b
  have hat : ∀ l1 b l2, out.reverse = l1 ++ b :: l2 → rd place b = l1.length := fun l1 b l2 e => by rw [p4 l1 b l2 e]; omega
  have hhd : ∃ t, out.reverse = 0 :: t := by
    have h0 : (0 : Int) ∈ out := (hm 0).2 (Rc.zero (by decide))
    obtain ⟨l, hl⟩ := hlast (fun h => by rw [h] at h0; exact absurd h0 (by simp))
    exact ⟨l.reverse, by rw [hl]; simp⟩
  refine ⟨seen, out, place, e, hl, hs, hlen', p1, by rw [p2]; simp, hm', hhd, fun b hb => ?_, fun b h0 hb h1 => ?_, fun a b ha hb hab => ?_, fun b hb h0 => ?_, fun l1 b l2 e a ha hlt => ?_, hnd', by obtain ⟨t, ht⟩ := hhd; exact hat [] 0 t ht⟩
  · obtain ⟨l1, l2, e⟩ := mem_split' ((hm' b).2 hb)
    have h1 := hat l1 b l2 e
    have h2 := congrArg List.length e
    simp at h2
    omega
  · rw [p3 b h0 (fun h => hb ((hm' b).1 h))]
    unfold rd
    have : b.toNat < s.length := by omega
    simp [List.getD, this]
  · obtain ⟨l1, l2, e1⟩ := mem_split' ((hm' a).2 ha)
    obtain ⟨l3, l4, e2⟩ := mem_split' ((hm' b).2 hb)
    have h1 := hat _ _ _ e1
    have h2 := hat _ _ _ e2
    have h3 : l1.length = l3.length := by omega
    have h4 : out.reverse[l1.length]? = some a := by rw [e1]; simp
    have h5 : out.reverse[l3.length]? = some b := by rw [e2]; simp
    rw [h3, h5] at h4
    exact (Option.some.inj h4).symm
  · obtain ⟨l1, l2, e1⟩ := mem_split' ((hm' b).2 hb)
    have e2 : out = l2.reverse ++ b :: l1.reverse := by
      have := congrArg List.reverse e1
      simpa using this
    rcases hrp _ _ _ e2 with h | ⟨p, hp, he⟩
    · exact absurd h h0
    · refine ⟨p, (hm p).1 (by rw [e2]; simp; right; right; simpa using hp), he, ?_⟩
      rw [List.mem_reverse] at hp
      obtain ⟨m1, m2, e3⟩ := mem_split' hp
      have h1 := hat l1 b l2 e1
      have h2 := hat m1 p (m2 ++ b :: l2) (by rw [e1, e3]; simp)
      have h3 := congrArg List.length e3
      simp at h3
      omega
  · obtain ⟨l3, l4, e2⟩ := mem_split' ((hm' a).2 ha)
    have h1 := hat _ _ _ e
    have h2 := hat _ _ _ e2
    have h3 : l3.length < l1.length := by omega
    have h4 : out.reverse[l3.length]? = some a := by rw [e2]; simp
    rw [e, List.getElem?_append_left h3] at h4
    exact List.mem_of_getElem? h4
/-- d dominates b. -/
def Dom (s : List (List Int)) (d b : Int) : Prop := Rc s (-1) b ∧ ¬ Rc s d b
theorem rc_or {s : List (List Int)} {a b c : Int} (h : Rc s a c) : Rc s b c ∨ Rc s a b := by
  refine Rc.ind (P := fun c => Rc s b c ∨ Rc s a b) (fun h0 => ?_) (fun x y hx hp e hy => ?_) h
  · by_cases hb : (0 : Int) = b
    · subst hb
      exact .inr (Rc.zero h0)
    · exact .inl (Rc.zero hb)
  · rcases hp with hp | hp
    · by_cases hyb : y = b
      · subst hyb
        exact .inr (hx.next e hy)
      · exact .inl (hp.next e hyb)
    · exact .inr hp
theorem Rc.weak {s : List (List Int)} (hok : EOk s) (hn : 0 < s.length) {d b : Int} (h : Rc s d b) : Rc s (-1) b := by
  refine Rc.ind (P := fun c => Rc s (-1) c) (fun _ => Rc.zero (by decide)) (fun x y hx hp e hy => hp.next e ?_) h
  have := (hok _ _ e).1
  omega
theorem Dom.reach {s : List (List Int)} {d b : Int} (h : Dom s d b) : Rc s (-1) d := by
  rcases rc_or (b := d) h.1 with h1 | h1
  · exact absurd h1 h.2
  · exact h1
theorem Dom.self {s : List (List Int)} {b : Int} (h : Rc s (-1) b) : Dom s b b := ⟨h, fun h1 => h1.ne rfl⟩
theorem Dom.trans {s : List (List Int)} {a b c : Int} (h1 : Dom s a b) (h2 : Dom s b c) : Dom s a c :=
  ⟨h2.1, fun h => by
    rcases rc_or (b := b) h with h3 | h3
    · exact h2.2 h3
    · exact h1.2 h3⟩
/-- Who dominates a block dominates who goes to it. -/
theorem Dom.pred {s : List (List Int)} {d p b : Int} (h : Dom s d b) (hd : d ≠ b) (hp : Rc s (-1) p) (e : E s p b) : Dom s d p :=
  ⟨hp, fun h1 => h.2 (h1.next e (fun e => hd e.symm))⟩
/-- Who dominates all that go to a block dominates it. -/
theorem Dom.of_preds {s : List (List Int)} (hok : EOk s) (hn : 0 < s.length) {d b : Int} (hb : Rc s (-1) b) (h0 : b ≠ 0) (h : ∀ p, Rc s (-1) p → E s p b → Dom s d p) : Dom s d b :=
  ⟨hb, fun ⟨r, h1⟩ => by
    cases h1 with
    | base => exact h0 rfl
    | step r a _ h2 e _ => exact (h a (Rc.weak hok hn ⟨r, h2⟩) e).2 ⟨r, h2⟩⟩
theorem Dom.place {s : List (List Int)} {order place : List Int} (hP : POk s order place) {d b : Int} (h : Dom s d b) : rd place d ≤ rd place b := by
  have key : ∀ n : Nat, ∀ b, Rc s (-1) b → rd place b < n → rd place b < rd place d → Rc s d b := by
    intro n
    induction n with
    | zero => intro b hb h1 _; have := (hP.nn b hb).1; omega
    | succ n ih =>
      intro b hb h1 h2
      by_cases h0 : b = 0
      · subst h0
        refine Rc.zero (fun e => ?_)
        subst e
        omega
      · obtain ⟨p, hp, e, hlt⟩ := hP.pred b hb h0
        refine (ih p hp (by omega) (by omega)).next e (fun e => ?_)
        subst e
        omega
  by_cases hc : rd place d ≤ rd place b
  · exact hc
  · have hn := (hP.nn b h.1).1
    exact absurd (key ((rd place b).toNat + 1) b h.1 (by omega) (by omega)) h.2
theorem Dom.antisymm {s : List (List Int)} {order place : List Int} (hP : POk s order place) {a b : Int} (h1 : Dom s a b) (h2 : Dom s b a) : a = b :=
  hP.inj a b h2.1 h1.1 (by have := h1.place hP; have := h2.place hP; omega)
/-- x lies above b in a tree, or is b. -/
inductive Anc (tree : List Int) (x : Int) : Int → Prop where
  | refl : Anc tree x x
  | up (b : Int) : b ≠ 0 → Anc tree x (rd tree b) → Anc tree x b
theorem Anc.trans {tree : List Int} {x y z : Int} (h1 : Anc tree x y) (h2 : Anc tree y z) : Anc tree x z := by
  induction h2 with
  | refl => exact h1
  | up b h0 _ ih => exact .up b h0 ih
theorem Anc.zero {tree : List Int} {x : Int} (h : Anc tree x 0) : x = 0 := by
  cases h with
  | refl => rfl
  | up _ h0 _ => exact absurd rfl h0
/-- A block that is done. -/
def D (s : List (List Int)) (done : List Bool) (b : Int) : Prop := 0 ≤ b ∧ b < (s.length : Int) ∧ rdOf false done b = true
structure Inv (s : List (List Int)) (place tree : List Int) (done : List Bool) : Prop where
  tlen : tree.length = s.length
  dlen : done.length = s.length
  t0 : rd tree 0 = -1
  dr : ∀ b, D s done b → Rc s (-1) b
  dn : ∀ b, 0 ≤ b → b < (s.length : Int) → ¬ D s done b → rd tree b = -1
  up : ∀ b, D s done b → b ≠ 0 → D s done (rd tree b) ∧ rd place (rd tree b) < rd place b ∧ ∀ d, Dom s d b → d ≠ b → Dom s d (rd tree b)
theorem Anc.inv {s : List (List Int)} {place tree : List Int} {done : List Bool} (hI : Inv s place tree done) {x b : Int} (h : Anc tree x b) (hb : D s done b) : D s done x ∧ rd place x ≤ rd place b := by
  induction h with
  | refl => exact ⟨hb, by omega⟩
  | up b h0 _ ih =>
    obtain ⟨h1, h2, _⟩ := hI.up b hb h0
    obtain ⟨h3, h4⟩ := ih h1
    exact ⟨h3, by omega⟩
theorem RL.mono {s : List (List Int)} {x y : Int} {m n : Nat} (h : RL s x m y) (hm : m ≤ n) : RL s x n y := by
  induction h generalizing n with
  | base r h => exact .base n h
  | step r a b _ e hb ih =>
    obtain ⟨k, rfl⟩ : ∃ k, n = k + 1 := ⟨n - 1, by omega⟩
    exact .step k a b (ih (by omega)) e hb
theorem RL.rc {s : List (List Int)} {x y : Int} {m : Nat} (h : RL s x m y) : Rc s x y := ⟨m, h⟩
theorem rl_or {s : List (List Int)} {a b c : Int} {m : Nat} (h : RL s a m c) : RL s b m c ∨ RL s a m b := by
  induction h with
  | base r h =>
    by_cases hb : (0 : Int) = b
    · subst hb; exact .inr (.base r h)
    · exact .inl (.base r hb)
  | step r x y hx e hy ih =>
    rcases ih with ih | ih
    · by_cases hyb : y = b
      · subst hyb; exact .inr (.step r x y hx e hy)
      · exact .inl (.step r x y ih e hyb)
    · exact .inr (ih.mono (by omega))
section
variable {s : List (List Int)} {order place tree : List Int} {done : List Bool}
theorem meet_spec (hI : Inv s place tree done) (hP : POk s order place) : ∀ k a b, D s done a → D s done b → (rd place a + rd place b).toNat < k →
    ∃ m, dom_meet.l0 k tree place a b = some m ∧ D s done m ∧ Anc tree m a ∧ Anc tree m b ∧ ∀ d, Dom s d a → Dom s d b → Dom s d m
  | 0, _, _, _, _, h => absurd h (by omega)
  | k + 1, a, b, ha, hb, h => by
    have ra := hI.dr a ha
    have rb := hI.dr b hb
    have na := hP.nn a ra
    have nb := hP.nn b rb
    have hpl := hP.plen
    have htl := hI.tlen
    obtain ⟨a0, a1, a2⟩ := ha
    obtain ⟨b0, b1, b2⟩ := hb
    rw [dom_meet.l0]
    by_cases e : a = b
    · rw [if_pos e]
      subst e
      exact ⟨a, rfl, ⟨a0, a1, a2⟩, .refl, .refl, fun d h _ => h⟩
    rw [if_neg e, if_pos a0, if_pos (by omega), if_pos b0, if_pos (by omega)]
    by_cases hlt : rd place a > rd place b
    · rw [if_pos hlt, if_pos (by omega)]
      have h0 : a ≠ 0 := fun e => by subst e; have := hP.z; omega
      obtain ⟨u1, u2, u3⟩ := hI.up a ⟨a0, a1, a2⟩ h0
      have nu := hP.nn _ (hI.dr _ u1)
      obtain ⟨m, e1, e2, e3, e4, e5⟩ := meet_spec hI hP k (rd tree a) b u1 ⟨b0, b1, b2⟩ (by omega)
      refine ⟨m, e1, e2, .up a h0 e3, e4, fun d d1 d2 => e5 d (u3 d d1 (fun e => ?_)) d2⟩
      subst e
      have := d2.place hP
      omega
    · rw [if_neg hlt, if_pos (by omega)]
      have hne : rd place a ≠ rd place b := fun h => e (hP.inj a b ra rb h)
      have h0 : b ≠ 0 := fun e => by subst e; have := hP.z; omega
      obtain ⟨u1, u2, u3⟩ := hI.up b ⟨b0, b1, b2⟩ h0
      have nu := hP.nn _ (hI.dr _ u1)
      obtain ⟨m, e1, e2, e3, e4, e5⟩ := meet_spec hI hP k a (rd tree b) ⟨a0, a1, a2⟩ u1 (by omega)
      refine ⟨m, e1, e2, e3, .up b h0 e4, fun d d1 d2 => e5 d d1 (u3 d d2 (fun e => ?_))⟩
      subst e
      have := d1.place hP
      omega
/-- One that is asked. -/
def Cand (s : List (List Int)) (done : List Bool) (l : List Int) (next c : Int) : Prop := D s done c ∧ (c = next ∨ c ∈ l)
theorem pick_spec (hI : Inv s place tree done) (hP : POk s order place) {k : Nat} (hk : 2 * s.length < k) : ∀ l next, (∀ p, p ∈ l → 0 ≤ p ∧ p < (s.length : Int)) → (next = -1 ∨ D s done next) →
    ∃ r, dtree.pick k tree place done l next = some r ∧ ((r = -1 ∧ ∀ c, ¬ Cand s done l next c) ∨ (D s done r ∧ (∀ c, Cand s done l next c → Anc tree r c) ∧ ∀ d, (∀ c, Cand s done l next c → Dom s d c) → Dom s d r))
  | [], next, _, hn => by
    refine ⟨next, rfl, ?_⟩
    rcases hn with hn | hn
    · exact .inl ⟨hn, fun c hc => by
        obtain ⟨h1, h2⟩ := hc
        have := h1.1
        rcases h2 with h2 | h2
        · omega
        · exact absurd h2 (by simp)⟩
    · refine .inr ⟨hn, fun c hc => ?_, fun d hd => hd next ⟨hn, .inl rfl⟩⟩
      rcases hc.2 with h | h
      · rw [h]; exact .refl
      · exact absurd h (by simp)
  | p :: l, next, hl, hn => by
    obtain ⟨p0, p1⟩ := hl p (by simp)
    have hpl := hP.plen
    have hdl := hI.dlen
    have hl' : ∀ q, q ∈ l → 0 ≤ q ∧ q < (s.length : Int) := fun q hq => hl q (by simp [hq])
    rw [dtree.pick, if_pos ⟨p0, by omega, by omega⟩]
    have skip : ¬ D s done p → ∀ c, Cand s done (p :: l) next c ↔ Cand s done l next c := fun hp c =>
      ⟨fun ⟨h1, h2⟩ => ⟨h1, by rcases h2 with h2 | h2
                               · exact .inl h2
                               · rcases List.mem_cons.1 h2 with h2 | h2
                                 · subst h2; exact absurd h1 hp
                                 · exact .inr h2⟩, fun ⟨h1, h2⟩ => ⟨h1, h2.imp id (fun h => by simp [h])⟩⟩
    have go : ¬ D s done p → ∃ r, dtree.pick k tree place done l next = some r ∧ ((r = -1 ∧ ∀ c, ¬ Cand s done (p :: l) next c) ∨ (D s done r ∧ (∀ c, Cand s done (p :: l) next c → Anc tree r c) ∧ ∀ d, (∀ c, Cand s done (p :: l) next c → Dom s d c) → Dom s d r)) := fun hp => by
      obtain ⟨r, e, h⟩ := pick_spec hI hP hk l next hl' hn
      refine ⟨r, e, ?_⟩
      simpa only [skip hp] using h
    by_cases hp1 : rd place p < 0
    · rw [if_pos hp1]
      exact go (fun hd => by have := (hP.nn p (hI.dr p hd)).1; omega)
    rw [if_neg hp1]
    cases hp2 : rdOf false done p with
    | false =>
      rw [if_pos rfl]
      exact go (fun hd => by have := hd.2.2; rw [hp2] at this; exact absurd this (by simp))
    | true =>
      rw [if_neg (by simp)]
      have hD : D s done p := ⟨p0, p1, hp2⟩
      by_cases hn0 : next < 0
      · rw [if_pos hn0]
        have hnn : ¬ D s done next := fun h => by have := h.1; omega
        have same : ∀ c, Cand s done (p :: l) next c ↔ Cand s done l p c := fun c =>
          ⟨fun ⟨h1, h2⟩ => ⟨h1, by rcases h2 with h2 | h2
                                   · subst h2; exact absurd h1 hnn
                                   · exact List.mem_cons.1 h2⟩, fun ⟨h1, h2⟩ => ⟨h1, .inr (List.mem_cons.2 h2)⟩⟩
        obtain ⟨r, e, h⟩ := pick_spec hI hP hk l p hl' (.inr hD)
        exact ⟨r, e, by simpa only [same] using h⟩
      · rw [if_neg hn0]
        have hDn : D s done next := by
          rcases hn with h | h
          · omega
          · exact h
        have nn1 := hP.nn _ (hI.dr _ hDn)
        have nn2 := hP.nn _ (hI.dr _ hD)
        obtain ⟨m, e1, e2, e3, e4, e5⟩ := meet_spec hI hP k next p hDn hD (by omega)
        obtain ⟨r, e, h⟩ := pick_spec hI hP hk l m hl' (.inr e2)
        refine ⟨r, by rw [dom_meet.f, e1]; exact e, .inr ?_⟩
        rcases h with ⟨_, h⟩ | ⟨h1, h2, h3⟩
        · exact absurd ⟨e2, .inl rfl⟩ (h m)
        have hm := h2 m ⟨e2, .inl rfl⟩
        refine ⟨h1, fun c hc => ?_, fun d hd => h3 d (fun c hc => ?_)⟩
        · rcases hc.2 with h | h
          · rw [h]; exact hm.trans e3
          · rcases List.mem_cons.1 h with h | h
            · rw [h]; exact hm.trans e4
            · exact h2 c ⟨hc.1, .inr h⟩
        · rcases hc.2 with h | h
          · rw [h]; exact e5 d (hd next ⟨hDn, .inl rfl⟩) (hd p ⟨hD, .inr (by simp)⟩)
          · exact hd c ⟨hc.1, .inr (by simp [h])⟩
theorem D_set {b : Int} (hb : 0 ≤ b ∧ b < (s.length : Int)) (hl : done.length = s.length) (x : Int) : D s (done.set b.toNat true) x ↔ D s done x ∨ x = b := by
  unfold D
  constructor
  · rintro ⟨h0, h1, h2⟩
    rw [rdOf_set hb.1 (by omega) h0] at h2
    by_cases e : x = b
    · exact .inr e
    · rw [if_neg e] at h2; exact .inl ⟨h0, h1, h2⟩
  · rintro (⟨h0, h1, h2⟩ | rfl)
    · refine ⟨h0, h1, ?_⟩
      rw [rdOf_set hb.1 (by omega) h0]
      split <;> simp [h2]
    · exact ⟨hb.1, hb.2, by rw [rdOf_set hb.1 (by omega) hb.1, if_pos rfl]⟩
theorem Inv.step (hI : Inv s place tree done) {b r : Int} (hb : 0 ≤ b ∧ b < (s.length : Int)) (h0 : b ≠ 0) (hr : Rc s (-1) b) (h1 : D s done r) (h2 : rd place r < rd place b) (h3 : ∀ d, Dom s d b → d ≠ b → Dom s d r) :
    Inv s place (tree.set b.toNat r) (done.set b.toNat true) := by
  have hbt : b < (tree.length : Int) := by have := hI.tlen; omega
  have hD := D_set (s := s) hb hI.dlen
  refine ⟨by rw [List.length_set]; exact hI.tlen, by rw [List.length_set]; exact hI.dlen, ?_, fun x hx => ?_, fun x x0 x1 hx => ?_, fun x hx hx0 => ?_⟩
  · rw [rd_set hb.1 hbt (by omega), if_neg (fun e => h0 e.symm)]; exact hI.t0
  · rcases (hD x).1 hx with h | h
    · exact hI.dr x h
    · rw [h]; exact hr
  · rw [hD, not_or] at hx
    rw [rd_set hb.1 hbt x0, if_neg hx.2]
    exact hI.dn x x0 x1 hx.1
  · have x0 := hx.1
    rw [rd_set hb.1 hbt x0]
    by_cases e : x = b
    · subst e
      rw [if_pos rfl]
      exact ⟨(hD r).2 (.inl h1), h2, h3⟩
    · rw [if_neg e]
      rcases (hD x).1 hx with h | h
      · obtain ⟨u1, u2, u3⟩ := hI.up x h hx0
        exact ⟨(hD _).2 (.inl u1), u2, u3⟩
      · exact absurd h e
theorem anc_set (hI : Inv s place tree done) {b r : Int} (hb : 0 ≤ b ∧ b < (s.length : Int)) (hI' : Inv s place (tree.set b.toNat r) (done.set b.toNat true)) {x y : Int} (h : Anc (tree.set b.toNat r) x y) (hy : D s (done.set b.toNat true) y) (hb0 : b ≠ 0) :
    Anc tree x y ∨ (Anc tree b y ∧ Anc tree x r) := by
  have hbt : b < (tree.length : Int) := by have := hI.tlen; omega
  induction h with
  | refl => exact .inl .refl
  | up y y0 _ ih =>
    have ih := ih (hI'.up y hy y0).1
    rw [rd_set hb.1 hbt hy.1] at ih
    by_cases e : y = b
    · subst e
      rw [if_pos rfl] at ih
      rcases ih with h | ⟨_, h⟩
      · exact .inr ⟨.refl, h⟩
      · exact .inr ⟨.refl, h⟩
    · rw [if_neg e] at ih
      rcases ih with h | ⟨h1, h2⟩
      · exact .inl (.up y y0 h)
      · exact .inr ⟨.up y y0 h1, h2⟩
theorem anc_set_self (hI : Inv s place tree done) {b r : Int} (hb : 0 ≤ b ∧ b < (s.length : Int)) (hI' : Inv s place (tree.set b.toNat r) (done.set b.toNat true)) {x : Int} (h : Anc (tree.set b.toNat r) x b) (hb0 : b ≠ 0) : x = b ∨ Anc tree x r := by
  have hbt : b < (tree.length : Int) := by have := hI.tlen; omega
  have hDb : D s (done.set b.toNat true) b := (D_set hb hI.dlen b).2 (.inr rfl)
  generalize ht : tree.set b.toNat r = t at *
  cases h with
  | refl => exact .inl rfl
  | up _ _ h =>
    subst ht
    have hu := (hI'.up b hDb hb0).1
    rw [rd_set hb.1 hbt hb.1, if_pos rfl] at h hu
    rcases anc_set hI hb hI' h hu hb0 with h | ⟨_, h⟩
    · exact .inr h
    · exact .inr h
end
/-- Who goes to each block. -/
def PrOk (s preds : List (List Int)) : Prop := preds.length = s.length ∧ ∀ b, 0 ≤ b → b < (s.length : Int) → ∀ p, p ∈ preds.getD b.toNat [] ↔ E s p b
def AllD (s : List (List Int)) (done : List Bool) : Prop := ∀ x, Rc s (-1) x → D s done x
def CL (s : List (List Int)) (tree : List Int) (done : List Bool) (L : Int → Nat) : Prop := ∀ b, D s done b → ∀ x, Anc tree x b → ¬ RL s x (L b) b
section
variable {s preds : List (List Int)} {order place tree : List Int} {done : List Bool}
/-- What a block's round gives. -/
theorem pick_at (hok : EOk s) (hI : Inv s place tree done) (hP : POk s order place) (hR : PrOk s preds) {k : Nat} (hk : 2 * s.length < k) {b : Int} (hb : 0 ≤ b ∧ b < (s.length : Int)) (hr : Rc s (-1) b) (h0 : b ≠ 0)
    (hp : ∃ p, D s done p ∧ E s p b ∧ rd place p < rd place b) :
    ∃ r, dtree.pick k tree place done (preds.getD b.toNat []) (-1) = some r ∧ D s done r ∧ rd place r < rd place b ∧ (∀ p, D s done p → E s p b → Anc tree r p) ∧ ∀ d, Dom s d b → d ≠ b → Dom s d r := by
  obtain ⟨r, e, h⟩ := pick_spec hI hP hk (preds.getD b.toNat []) (-1) (fun p hp => by have := (hR.2 b hb.1 hb.2 p).1 hp; exact ⟨this.1, this.2.1⟩) (.inl rfl)
  have hc : ∀ c, Cand s done (preds.getD b.toNat []) (-1) c ↔ D s done c ∧ E s c b := fun c =>
    ⟨fun ⟨h1, h2⟩ => ⟨h1, by rcases h2 with h2 | h2
                             · have := h1.1; omega
                             · exact (hR.2 b hb.1 hb.2 c).1 h2⟩, fun ⟨h1, h2⟩ => ⟨h1, .inr ((hR.2 b hb.1 hb.2 c).2 h2)⟩⟩
  obtain ⟨p, p1, p2, p3⟩ := hp
  refine ⟨r, e, ?_⟩
  rcases h with ⟨_, h⟩ | ⟨h1, h2, h3⟩
  · exact absurd ((hc p).2 ⟨p1, p2⟩) (h p)
  · have hrp := (h2 p ((hc p).2 ⟨p1, p2⟩)).inv hI p1
    exact ⟨h1, by omega, fun q q1 q2 => h2 q ((hc q).2 ⟨q1, q2⟩), fun d d1 d2 => h3 d (fun c hcc => d1.pred d2 (hI.dr c ((hc c).1 hcc).1) ((hc c).1 hcc).2)⟩
theorem CL.step (hI : Inv s place tree done) (hA : AllD s done) {b x r : Int} (hb : 0 ≤ b ∧ b < (s.length : Int)) (h0 : b ≠ 0) (hr : Rc s (-1) b) (hok : EOk s) (hn : 0 < s.length)
    (hI' : Inv s place (tree.set b.toNat r) (done.set b.toNat true)) (hrp : ∀ p, D s done p → E s p b → Anc tree r p) {m : Nat} {L : Int → Nat} (hL : ∀ y, m ≤ L y ∧ L y ≤ m + 1) (hC : CL s tree done L) :
    CL s (tree.set b.toNat r) (done.set b.toNat true) (fun y => if y = b then m + 1 else L y) := by
  have key : ∀ x, Anc tree x r → ¬ RL s x (m + 1) b := fun x hx h => by
    cases h with
    | base => exact h0 rfl
    | step _ a _ h e _ =>
      have ha := hA a (h.rc.weak hok hn)
      exact hC a ha x (hx.trans (hrp a ha e)) (h.mono (hL a).1)
  intro y hy x hx
  by_cases e : y = b
  · subst e
    simp only [if_true]
    rcases anc_set_self hI hb hI' hx h0 with h | h
    · intro h1; exact h1.rc.ne h.symm
    · exact key x h
  · simp only [if_neg e]
    have hy' : D s done y := by
      rcases (D_set hb hI.dlen y).1 hy with h | h
      · exact h
      · exact absurd h e
    rcases anc_set hI hb hI' hx hy h0 with h | ⟨h1, h2⟩
    · exact hC y hy' x h
    · intro h
      rcases rl_or (b := b) h with h3 | h3
      · exact hC y hy' b h1 h3
      · exact key x h2 (h3.mono (hL y).2)
theorem set_rd {xs : List Int} {b : Int} (hb : 0 ≤ b) (h : b < (xs.length : Int)) : xs.set b.toNat (rd xs b) = xs := by
  have hlt : b.toNat < xs.length := by omega
  have : rd xs b = xs[b.toNat] := by simp [rd, List.getD, hlt]
  rw [this, List.set_getElem_self]
theorem set_true {xs : List Bool} {b : Int} (hb : 0 ≤ b) (h : b < (xs.length : Int)) (ht : rdOf false xs b = true) : xs.set b.toNat true = xs := by
  have hlt : b.toNat < xs.length := by omega
  have : xs[b.toNat] = true := by simpa [rdOf, List.getD, hlt] using ht
  conv => lhs; rw [← this]
  rw [List.set_getElem_self]
theorem sweep_spec (hok : EOk s) (hn : 0 < s.length) (hP : POk s order place) (hR : PrOk s preds) {k : Nat} (hk : 2 * s.length < k) (m : Nat) : ∀ (l pre : List Int) (tree : List Int) (done : List Bool) (ch : Bool), order = (0 :: pre) ++ l → Inv s place tree done → (∀ x, x ∈ (0 :: pre) → D s done x) →
    ∃ tree' done' ch', dtree.sweep k preds place l (tree, done, ch) = some (tree', done', ch') ∧ Inv s place tree' done' ∧ (∀ x, x ∈ order → D s done' x) ∧ (ch = true → ch' = true) ∧
      (ch' = false → tree' = tree ∧ done' = done ∧ ∀ b, b ∈ l → ∀ p, D s done p → E s p b → Anc tree (rd tree b) p) ∧
      (AllD s done → ∀ L : Int → Nat, (∀ y, m ≤ L y ∧ L y ≤ m + 1) → CL s tree done L → ∃ L' : Int → Nat, (∀ y, L y ≤ L' y ∧ m ≤ L' y ∧ L' y ≤ m + 1) ∧ (∀ y, y ∈ l → L' y = m + 1) ∧ CL s tree' done' L')
  | [], pre, tree, done, ch, ho, hI, hd => by
    refine ⟨tree, done, ch, rfl, hI, fun x hx => hd x (by rw [ho, List.append_nil] at hx; exact hx), id, fun _ => ⟨rfl, rfl, fun b hb => absurd hb (by simp)⟩, fun _ L hL hC => ⟨L, fun y => ⟨Nat.le_refl _, (hL y).1, (hL y).2⟩, fun y hy => absurd hy (by simp), hC⟩⟩
  | b :: l, pre, tree, done, ch, ho, hI, hd => by
    have hmem : b ∈ order := by rw [ho]; simp
    have hr := (hP.mem b).1 hmem
    have hb := hr.range hok hn
    have h0 : b ≠ 0 := fun e => by
      have := hP.nd
      rw [ho, e] at this
      simp at this
    have hp : ∃ p, D s done p ∧ E s p b ∧ rd place p < rd place b := by
      obtain ⟨p, p1, p2, p3⟩ := hP.pred b hr h0
      exact ⟨p, hd p (hP.asc _ b l ho p p1 p3), p2, p3⟩
    obtain ⟨r, e, r1, r2, r3, r4⟩ := pick_at hok hI hP hR hk hb hr h0 hp
    have hI' := hI.step hb h0 hr r1 r2 r4
    have hbt : b < (tree.length : Int) := by have := hI.tlen; omega
    have hbd : b < (done.length : Int) := by have := hI.dlen; omega
    obtain ⟨t', d', c', s1, s2, s3, s4, s5, s6⟩ := sweep_spec hok hn hP hR hk m l (pre ++ [b]) (tree.set b.toNat r) (done.set b.toNat true) (ch || r != rd tree b) (by rw [ho]; simp) hI' (fun x hx => by
      rw [D_set hb hI.dlen]
      rcases List.mem_cons.1 hx with h | h
      · exact .inl (hd x (by simp [h]))
      · rcases List.mem_append.1 h with h | h
        · exact .inl (hd x (by simp [h]))
        · exact .inr (by simpa using h))
    refine ⟨t', d', c', ?_, s2, s3, fun h => s4 (by rw [h]; rfl), fun h => ?_, fun hA L hL hC => ?_⟩
    · rw [dtree.sweep, if_pos ⟨hb.1, by have := hR.1; omega, hbt, hbd⟩, e]
      exact s1
    · have hch : (ch || r != rd tree b) = false := by
        cases hx : (ch || r != rd tree b) with
        | false => rfl
        | true => rw [s4 hx] at h; exact absurd h (by simp)
      have hre : r = rd tree b := by simpa using (Bool.or_eq_false_iff.1 hch).2
      have hDb : D s done b := by
        by_cases hD : D s done b
        · exact hD
        · have := hI.dn b hb.1 hb.2 hD
          have := r1.1
          omega
      obtain ⟨u1, u2, u3⟩ := s5 h
      rw [hre, set_rd hb.1 hbt] at u1 u3
      rw [set_true hb.1 hbd hDb.2.2] at u2 u3
      refine ⟨u1, u2, fun y hy q hq he => ?_⟩
      rcases List.mem_cons.1 hy with h | h
      · rw [h, ← hre]; exact r3 q hq (by rw [← h]; exact he)
      · exact u3 y h q hq he
    · have hC1 := CL.step (x := 0) hI hA hb h0 hr hok hn hI' r3 hL hC
      have hA1 : AllD s (done.set b.toNat true) := fun x hx => (D_set hb hI.dlen x).2 (.inl (hA x hx))
      obtain ⟨L', l1, l2, l3⟩ := s6 hA1 (fun y => if y = b then m + 1 else L y) (fun y => by have := hL y; split <;> omega) hC1
      refine ⟨L', fun y => ?_, fun y hy => ?_, l3⟩
      · have h1 := l1 y
        have h2 := hL y
        split at h1 <;> omega
      · rcases List.mem_cons.1 hy with h | h
        · have := l1 y
          rw [if_pos h] at this
          omega
        · exact l2 y h
/-- A tree that is right stays. -/
theorem sweep_exact (hok : EOk s) (hn : 0 < s.length) (hP : POk s order place) (hR : PrOk s preds) {k : Nat} (hk : 2 * s.length < k) (hI : Inv s place tree done) (hA : AllD s done) (hX : ∀ b, D s done b → ∀ x, Anc tree x b → Dom s x b) (ch : Bool) :
    ∀ (l pre : List Int), order = (0 :: pre) ++ l → dtree.sweep k preds place l (tree, done, ch) = some (tree, done, ch)
  | [], _, _ => rfl
  | b :: l, pre, ho => by
    have hmem : b ∈ order := by rw [ho]; simp
    have hr := (hP.mem b).1 hmem
    have hb := hr.range hok hn
    have h0 : b ≠ 0 := fun e => by
      have := hP.nd
      rw [ho, e] at this
      simp at this
    obtain ⟨p, p1, p2, p3⟩ := hP.pred b hr h0
    obtain ⟨r, e, r1, r2, r3, r4⟩ := pick_at hok hI hP hR hk hb hr h0 ⟨p, hA p p1, p2, p3⟩
    have hbt : b < (tree.length : Int) := by have := hI.tlen; omega
    have hbd : b < (done.length : Int) := by have := hI.dlen; omega
    have hDb := hA b hr
    obtain ⟨u1, u2, u3⟩ := hI.up b hDb h0
    have hrb : Dom s r b := Dom.of_preds hok hn hr h0 (fun q q1 q2 => hX q (hA q q1) r (r3 q (hA q q1) q2))
    have htb : Dom s (rd tree b) b := hX b hDb _ (.up b h0 .refl)
    have hre : r = rd tree b := by
      have h1 := u3 r hrb (fun e => by subst e; omega)
      have h2 := r4 (rd tree b) htb (fun e => by rw [e] at u2; omega)
      exact h1.antisymm hP h2
    rw [dtree.sweep, if_pos ⟨hb.1, by have := hR.1; omega, hbt, hbd⟩, e]
    show dtree.sweep k preds place l (tree.set b.toNat r, done.set b.toNat true, ch || r != rd tree b) = _
    rw [hre, set_rd hb.1 hbt, set_true hb.1 hbd hDb.2.2]
    have : (ch || rd tree b != rd tree b) = ch := by simp
    rw [this]
    exact sweep_exact hok hn hP hR hk hI hA hX ch l (pre ++ [b]) (by rw [ho]; simp)
/-- A tree that is right. -/
structure Idom (s : List (List Int)) (tree : List Int) : Prop where
  len : tree.length = s.length
  t0 : rd tree 0 = -1
  un : ∀ b, 0 ≤ b → b < (s.length : Int) → ¬ Rc s (-1) b → rd tree b = -1
  id : ∀ b, Rc s (-1) b → b ≠ 0 → Dom s (rd tree b) b ∧ rd tree b ≠ b ∧ ∀ d, Dom s d b → d ≠ b → Dom s d (rd tree b)
theorem bound (s : List (List Int)) : ∃ R, ∀ x b, 0 ≤ x → x < (s.length : Int) → 0 ≤ b → b < (s.length : Int) → Rc s x b → RL s x R b := by
  have one : ∀ x : Int, ∀ m : Nat, ∃ R, ∀ b : Nat, b < m → Rc s x b → RL s x R b := by
    intro x m
    induction m with
    | zero => exact ⟨0, fun b hb => absurd hb (by omega)⟩
    | succ m ih =>
      obtain ⟨R, hR⟩ := ih
      by_cases h : Rc s x m
      · obtain ⟨r, hr⟩ := h
        refine ⟨max R r, fun b hb hx => ?_⟩
        by_cases e : b = m
        · subst e; exact hr.mono (by omega)
        · exact (hR b (by omega) hx).mono (by omega)
      · refine ⟨R, fun b hb hx => ?_⟩
        by_cases e : b = m
        · subst e; exact absurd hx h
        · exact hR b (by omega) hx
  have two : ∀ m : Nat, ∃ R, ∀ x : Nat, x < m → ∀ b : Nat, b < s.length → Rc s x b → RL s x R b := by
    intro m
    induction m with
    | zero => exact ⟨0, fun x hx => absurd hx (by omega)⟩
    | succ m ih =>
      obtain ⟨R, hR⟩ := ih
      obtain ⟨r, hr⟩ := one m s.length
      refine ⟨max R r, fun x hx b hb h => ?_⟩
      by_cases e : x = m
      · subst e; exact (hr b hb h).mono (by omega)
      · exact (hR x (by omega) b hb h).mono (by omega)
  obtain ⟨R, hR⟩ := two s.length
  refine ⟨R, fun x b x0 x1 b0 b1 h => ?_⟩
  have h1 := hR x.toNat (by omega) b.toNat (by omega)
  rw [Int.toNat_of_nonneg x0, Int.toNat_of_nonneg b0] at h1
  exact h1 h
theorem fix_idom (hok : EOk s) (hn : 0 < s.length) (hI : Inv s place tree done) (hA : AllD s done) (hF : ∀ b, Rc s (-1) b → b ≠ 0 → ∀ p, D s done p → E s p b → Anc tree (rd tree b) p) : Idom s tree := by
  have hX : ∀ x b, Rc s x b → ¬ Anc tree x b := fun x b h => by
    refine Rc.ind (P := fun b => ¬ Anc tree x b) (fun h0 ha => h0 ha.zero.symm) (fun a b ha hp e hb ha' => ?_) h
    have hbr := (ha.next e hb).weak hok hn
    by_cases h0 : b = 0
    · subst h0
      exact hb ha'.zero.symm
    · generalize hc : b = c at *
      cases ha' with
      | refl => exact hb rfl
      | up _ _ h1 => exact hp (h1.trans (hF c hbr h0 a (hA a (ha.weak hok hn)) e))
  refine ⟨hI.tlen, hI.t0, fun b b0 b1 h => hI.dn b b0 b1 (fun hd => h (hI.dr b hd)), fun b hb h0 => ?_⟩
  obtain ⟨u1, u2, u3⟩ := hI.up b (hA b hb) h0
  exact ⟨⟨hb, fun h => hX _ _ h (.up b h0 .refl)⟩, fun e => by rw [e] at u2; omega, u3⟩
theorem cl_zero (hI : Inv s place tree done) : CL s tree done (fun _ => 0) := fun b hb x hx h => by
  cases h with
  | base _ h0 => exact h0 hx.zero.symm
theorem order_mem (hP : POk s order place) {b : Int} (h : Rc s (-1) b) (h0 : b ≠ 0) : b ∈ order.tail := by
  have h1 := (hP.mem b).2 h
  obtain ⟨t, ht⟩ := hP.hd
  rw [ht] at h1 ⊢
  rcases List.mem_cons.1 h1 with h1 | h1
  · exact absurd h1 h0
  · exact h1
theorem rounds_spec (hok : EOk s) (hn : 0 < s.length) (hP : POk s order place) (hR : PrOk s preds) {k : Nat} (hk : 2 * s.length < k) {R : Nat} (hB : ∀ x b, 0 ≤ x → x < (s.length : Int) → 0 ≤ b → b < (s.length : Int) → Rc s x b → RL s x R b) :
    ∀ (c m : Nat) (tree : List Int) (done : List Bool), 0 < c → Inv s place tree done → AllD s done → CL s tree done (fun _ => m) → R + 1 ≤ m + c → ∃ tree', dtree.rounds k preds place order c (tree, done) = some tree' ∧ Idom s tree'
  | 0, m, tree, done, hc, _, _, _, _ => absurd hc (by omega)
  | c + 1, m, tree, done, _, hI, hA, hC, hm => by
    have hord : order = (0 :: []) ++ order.tail := by
      obtain ⟨t, ht⟩ := hP.hd
      rw [ht]; rfl
    have hD0 := hA 0 (Rc.zero (by decide))
    have hdl := hI.dlen
    have hset : done.set 0 true = done := set_true (b := 0) (by omega) (by omega) hD0.2.2
    have hlen : 0 < order.length := by rw [hord]; simp
    obtain ⟨t', d', c', s1, s2, s3, s4, s5, s6⟩ := sweep_spec hok hn hP hR hk m order.tail [] tree done false hord hI (fun x hx => by rw [List.mem_singleton.1 hx]; exact hD0)
    rw [dtree.rounds, if_pos hlen, if_pos (by show 0 < done.length; omega)]
    show ∃ tree', ((dtree.sweep k preds place order.tail (tree, done.set 0 true, false)).bind _) = some tree' ∧ _
    rw [hset, s1]
    show ∃ tree', (if c' = true then dtree.rounds k preds place order c (t', d') else some t') = some tree' ∧ _
    cases hc : c' with
    | false =>
      rw [if_neg (by simp)]
      obtain ⟨u1, u2, u3⟩ := s5 hc
      refine ⟨t', rfl, ?_⟩
      rw [u1]
      exact fix_idom hok hn hI hA (fun b hb h0 p hp e => u3 b (order_mem hP hb h0) p hp e)
    | true =>
      rw [if_pos rfl]
      have hlt : m < R := by
        rcases Nat.lt_or_ge m R with h | h
        · exact h
        · exfalso
          have hX : ∀ b, D s done b → ∀ x, Anc tree x b → Dom s x b := fun b hb x hx => by
            refine ⟨hI.dr b hb, fun h1 => hC b hb x hx ?_⟩
            have hx' := (hx.inv hI hb).1
            exact (hB x b hx'.1 hx'.2.1 hb.1 hb.2.1 h1).mono h
          have := sweep_exact hok hn hP hR hk hI hA hX false order.tail [] hord
          rw [s1] at this
          injection this with this
          simp only [Prod.mk.injEq] at this
          rw [hc] at this
          exact absurd this.2.2 (by simp)
      have hA' : AllD s d' := fun x hx => s3 x ((hP.mem x).2 hx)
      obtain ⟨L', l1, l2, l3⟩ := s6 hA (fun _ => m) (fun _ => ⟨Nat.le_refl _, by omega⟩) hC
      refine rounds_spec hok hn hP hR hk hB c (m + 1) t' d' (by omega) s2 hA' (fun b hb x hx => ?_) (by omega)
      by_cases h0 : b = 0
      · subst h0
        intro h1
        exact h1.rc.ne hx.zero.symm
      · have := l3 b hb x hx
        rwa [l2 b (order_mem hP (s2.dr b hb) h0)] at this
theorem tree_spec (hok : EOk s) (hn : 0 < s.length) (hP : POk s order place) (hR : PrOk s preds) : ∃ K, ∀ k c, K ≤ k → K ≤ c → ∃ tree', dtree.rounds k preds place order c (List.replicate s.length (-1), List.replicate s.length false) = some tree' ∧ Idom s tree' := by
  obtain ⟨R, hB⟩ := bound s
  refine ⟨2 * s.length + R + 5, fun k c hk hc => ?_⟩
  obtain ⟨c, rfl⟩ : ∃ c', c = c' + 1 := ⟨c - 1, by omega⟩
  have hord : order = (0 :: []) ++ order.tail := by
    obtain ⟨t, ht⟩ := hP.hd
    rw [ht]; rfl
  have hlen : 0 < order.length := by rw [hord]; simp
  have hrepF : ∀ i : Int, rdOf false (List.replicate s.length false) i = false := by
    intro i
    unfold rdOf
    simp only [List.getD, List.getElem?_replicate]
    split <;> rfl
  have hD : ∀ x, D s ((List.replicate s.length false).set 0 true) x ↔ x = 0 := fun x => by
    have := D_set (s := s) (done := List.replicate s.length false) (b := 0) ⟨by omega, by omega⟩ (by simp) x
    rw [show (0 : Int).toNat = 0 from rfl] at this
    rw [this]
    constructor
    · rintro (h | h)
      · have := h.2.2; rw [hrepF] at this; exact absurd this (by simp)
      · exact h
    · exact .inr
  have hrep : ∀ i : Int, 0 ≤ i → i < (s.length : Int) → rd (List.replicate s.length (-1)) i = -1 := fun i h0 h1 => by
    unfold rd
    have : i.toNat < s.length := by omega
    simp [List.getD, this]
  have hI : Inv s place (List.replicate s.length (-1)) ((List.replicate s.length false).set 0 true) := by
    refine ⟨by simp, by simp, hrep 0 (by omega) (by omega), fun b hb => ?_, fun b b0 b1 _ => hrep b b0 b1, fun b hb h0 => absurd ((hD b).1 hb) h0⟩
    rw [(hD b).1 hb]
    exact Rc.zero (by decide)
  obtain ⟨t', d', c', s1, s2, s3, s4, s5, s6⟩ := sweep_spec hok hn hP hR (k := k) (by omega) 0 order.tail [] _ _ false hord hI (fun x hx => by rw [List.mem_singleton.1 hx]; exact (hD 0).2 rfl)
  rw [dtree.rounds, if_pos hlen, if_pos (by show 0 < (List.replicate s.length false).length; simp; omega)]
  show ∃ tree', ((dtree.sweep k preds place order.tail (List.replicate s.length (-1), (List.replicate s.length false).set 0 true, false)).bind _) = some tree' ∧ _
  rw [s1]
  show ∃ tree', (if c' = true then dtree.rounds k preds place order c (t', d') else some t') = some tree' ∧ _
  have hA' : AllD s d' := fun x hx => s3 x ((hP.mem x).2 hx)
  cases hc' : c' with
  | false =>
    rw [if_neg (by simp)]
    obtain ⟨u1, u2, u3⟩ := s5 hc'
    refine ⟨t', rfl, ?_⟩
    rw [u1]
    rw [u2] at hA'
    exact fix_idom hok hn hI hA' (fun b hb h0 p hp e => u3 b (order_mem hP hb h0) p hp e)
  | true =>
    rw [if_pos rfl]
    exact rounds_spec hok hn hP hR (by omega) hB c 0 t' d' (by omega) s2 hA' (cl_zero s2) (by omega)
end
end Go.Proofs.Ytjibojmbhbaneaa.Dm
