/- Plain law: a block's rim holds each block in whose frontier it is. -/
import Derived.Test.YtjibojmbhbaneaaXPTree
import Derived.Test.YtjibojmbhbaneaaXRims
namespace Go.Proofs.Ytjibojmbhbaneaa.PRm
open Go.RowKit Go.Proofs.YtjibojmbhbaneaaW.PrintWords Go.Proofs.YtjibojmbhbaneaaW.PrintLast Go.Proofs.YtjibojmbhbaneaaW.PrintMore Go.Proofs.Ytjibojmbhbaneaa.X Go.Proofs.Ytjibojmbhbaneaa.Dm
set_option linter.unusedVariables false
set_option linter.unusedSimpArgs false
theorem index_at (x : List Int) (v : Int) (hx : x.length ≤ 1000000) : ∀ k j : Nat, j ≤ x.length → x.length - j < k → ∃ r : Int, slices_Index_int_int.l0 k x v (x.length : Int) (j : Int) = some r ∧ (0 ≤ r ↔ v ∈ x.drop j)
  | 0, j, hj, h => absurd h (by omega)
  | k + 1, j, hj, h => by
    by_cases hlt : j < x.length
    · rw [slices_Index_int_int.l0, if_pos (by omega), if_pos (by omega), if_pos (by omega), rd_nat x j hlt, List.drop_eq_getElem_cons hlt]
      by_cases e : v = x[j]
      · rw [if_pos e]
        exact ⟨_, rfl, by rw [e]; exact ⟨fun _ => List.mem_cons_self, fun _ => by omega⟩⟩
      · rw [if_neg e, wr1 j (by omega)]
        obtain ⟨r, e1, e2⟩ := index_at x v hx k (j + 1) (by omega) (by omega)
        exact ⟨r, e1, by rw [e2, List.mem_cons]; exact ⟨.inr, fun h => h.resolve_left e⟩⟩
    · rw [slices_Index_int_int.l0, if_neg (by omega), List.drop_eq_nil_of_le (by omega)]
      exact ⟨-1, rfl, by simp⟩
theorem contains_at (x : List Int) (v : Int) (hx : x.length ≤ 1000000) {k : Nat} (hk : x.length < k) : slices_Contains_int_int.f k x v = some (decide (v ∈ x)) := by
  obtain ⟨r, e, h⟩ := index_at x v hx k 0 (by omega) (by omega)
  rw [slices_Contains_int_int.f, slices_Index_int_int.f]
  have e' : slices_Index_int_int.l0 k x v (x.length : Int) 0 = some r := e
  rw [e', Option.bind_some]
  congr 1
  rw [decide_eq_decide]
  simpa using h
/-- Rows of blocks, none twice. -/
def RowsOk (n : Nat) (out : List (List Int)) : Prop := out.length = n ∧ ∀ x : Nat, (out.getD x []).Nodup ∧ ∀ i, i ∈ out.getD x [] → 0 ≤ i ∧ i < (n : Int)
theorem RowsOk.len {n : Nat} {out : List (List Int)} (h : RowsOk n out) (x : Nat) : (out.getD x []).length ≤ n := nodup_len (h.2 x).1 (h.2 x).2
theorem RowsOk.add {n : Nat} {out : List (List Int)} (h : RowsOk n out) {x : Nat} (hx : x < n) {k : Int} (hk : 0 ≤ k ∧ k < (n : Int)) (hn : k ∉ out.getD x []) : RowsOk n (out.set x (out.getD x [] ++ [k])) := by
  refine ⟨by rw [List.length_set]; exact h.1, fun y => ?_⟩
  by_cases e : y = x
  · subst e
    rw [List.getD_eq_getElem?_getD, List.getElem?_set_self (by rw [h.1]; exact hx), Option.getD_some]
    refine ⟨List.nodup_append.2 ⟨(h.2 y).1, by simp, fun a ha b hb e => hn (by rw [List.mem_singleton] at hb; rw [← hb, ← e]; exact ha)⟩, fun i hi => ?_⟩
    rcases List.mem_append.1 hi with hi | hi
    · exact (h.2 y).2 i hi
    · rw [List.mem_singleton.1 hi]; exact hk
  · rw [List.getD_eq_getElem?_getD, List.getElem?_set_ne (fun h => e h.symm), ← List.getD_eq_getElem?_getD]
    exact h.2 y
theorem getD_set {out : List (List Int)} {x y : Nat} (hx : x < out.length) (v : List Int) : (out.set x v).getD y [] = if y = x then v else out.getD y [] := by
  by_cases e : y = x
  · subst e
    rw [if_pos rfl, List.getD_eq_getElem?_getD, List.getElem?_set_self hx]
    rfl
  · rw [if_neg e, List.getD_eq_getElem?_getD, List.getElem?_set_ne (fun h => e h.symm), ← List.getD_eq_getElem?_getD]
/-- More is in the rows. -/
def More (out out' : List (List Int)) : Prop := ∀ (x : Nat) i, i ∈ out.getD x [] → i ∈ out'.getD x []
theorem More.refl (out : List (List Int)) : More out out := fun _ _ h => h
theorem More.trans {a b c : List (List Int)} (h1 : More a b) (h2 : More b c) : More a c := fun x i h => h2 x i (h1 x i h)
section
variable {s : List (List Int)} {order place tree : List Int}
theorem idom_lt (hI : Idom s tree) (hP : POk s order place) {b : Int} (hb : Rc s (-1) b) (h0 : b ≠ 0) : Rc s (-1) (rd tree b) ∧ rd place (rd tree b) < rd place b := by
  obtain ⟨h1, h2, _⟩ := hI.id b hb h0
  have h3 := h1.place hP
  have h4 := h1.reach
  refine ⟨h4, ?_⟩
  have : rd place (rd tree b) ≠ rd place b := fun e => h2 (hP.inj _ _ h4 hb e)
  omega
theorem anc_dom (hI : Idom s tree) {a b : Int} (h : Anc tree a b) (hb : Rc s (-1) b) : Dom s a b := by
  induction h with
  | refl => exact Dom.self hb
  | up b h0 _ ih =>
    obtain ⟨h1, _, _⟩ := hI.id b hb h0
    exact (ih h1.reach).trans h1
theorem dom_anc (hI : Idom s tree) (hP : POk s order place) {a : Int} : ∀ (n : Nat) (b : Int), rd place b < n → Dom s a b → Anc tree a b
  | 0, b, h, hd => by have := (hP.nn b hd.1).1; omega
  | n + 1, b, h, hd => by
    by_cases e : a = b
    · subst e; exact .refl
    · by_cases h0 : b = 0
      · subst h0
        have h1 := hd.place hP
        have h2 := (hP.nn a hd.reach).1
        have z := hP.z
        exact absurd (hP.inj a 0 hd.reach hd.1 (by omega)) e
      · have h1 := idom_lt hI hP hd.1 h0
        exact .up b h0 (dom_anc hI hP n _ (by omega) ((hI.id b hd.1 h0).2.2 a hd e))
theorem up_spec (hok : EOk s) (hI : Idom s tree) (hP : POk s order place) (hn : 0 < s.length) (hs : s.length ≤ 1000000) {c : Nat} (hc : s.length < c) {k : Int} (hk : Rc s (-1) k) :
    ∀ (n : Nat) (a : Int) (out : List (List Int)), Rc s (-1) a → rd place a + 1 < n → RowsOk s.length out →
      ∃ out', rims.up c tree k n a out = some out' ∧ RowsOk s.length out' ∧ More out out' ∧ ∀ x, Anc tree x a → (∀ y, Anc tree y a → Anc tree x y → y ≠ rd tree k) → k ∈ out'.getD x.toNat []
  | 0, a, out, ha, hlt, _ => by have := (hP.nn a ha).1; omega
  | n + 1, a, out, ha, hlt, hR => by
    have hr := ha.range hok hn
    have hkr := hk.range hok hn
    have htl := hI.len
    rw [rims.up, if_neg (by omega), if_pos ⟨by omega, hkr.1⟩]
    by_cases e : a = rd tree k
    · rw [if_pos e]
      exact ⟨out, rfl, hR, More.refl _, fun x hx h => absurd e (h a .refl hx)⟩
    rw [if_neg e, if_pos ⟨by rw [hR.1]; exact hr.2, by omega⟩, contains_at _ _ (by have := hR.len a.toNat; omega) (by have := hR.len a.toNat; omega), Option.bind_some]
    have hal : a.toNat < s.length := by omega
    have next : ∀ out1 : List (List Int), RowsOk s.length out1 → More out out1 → k ∈ out1.getD a.toNat [] →
        ∃ out', rims.up c tree k n (rd tree a) out1 = some out' ∧ RowsOk s.length out' ∧ More out out' ∧ ∀ x, Anc tree x a → (∀ y, Anc tree y a → Anc tree x y → y ≠ rd tree k) → k ∈ out'.getD x.toNat [] := fun out1 hR1 hM1 hk1 => by
      by_cases h0 : a = 0
      · subst h0
        have hz := hP.z
        obtain ⟨n, rfl⟩ : ∃ m, n = m + 1 := ⟨n - 1, by omega⟩
        rw [rims.up, if_pos (by rw [hI.t0]; decide)]
        refine ⟨out1, rfl, hR1, hM1, fun x hx _ => ?_⟩
        rw [hx.zero]
        exact hk1
      · have hlt' := idom_lt hI hP ha h0
        obtain ⟨out', e1, e2, e3, e4⟩ := up_spec hok hI hP hn hs hc hk n (rd tree a) out1 hlt'.1 (by omega) hR1
        refine ⟨out', e1, e2, hM1.trans e3, fun x hx h => ?_⟩
        generalize hq : a = q at *
        cases hx with
        | refl => exact e3 _ _ hk1
        | up _ _ hx => exact e4 x hx (fun y hy hxy => h y (.up q h0 hy) hxy)
    by_cases hm : k ∈ out.getD a.toNat []
    · rw [if_pos (by simpa using hm)]
      exact next out hR (More.refl _) hm
    · rw [if_neg (by simpa using hm), if_pos (by have := hR.len a.toNat; omega)]
      refine next _ (hR.add hal hkr hm) (fun x i hi => ?_) ?_
      · rw [getD_set (by rw [hR.1]; exact hal)]
        split
        · rename_i e; subst e; exact List.mem_append.2 (.inl hi)
        · exact hi
      · rw [getD_set (by rw [hR.1]; exact hal), if_pos rfl]
        simp
/-- What a block's rims must hold, of some of those that go to it. -/
def Has (s : List (List Int)) (tree : List Int) (out : List (List Int)) (k p : Int) : Prop := Rc s (-1) p → ∀ x, Anc tree x p → (∀ y, Anc tree y p → Anc tree x y → y ≠ rd tree k) → k ∈ out.getD x.toNat []
theorem Has.more {out out' : List (List Int)} {k p : Int} (h : Has s tree out k p) (hm : More out out') : Has s tree out' k p := fun hp x hx hy => hm _ _ (h hp x hx hy)
theorem row_spec (hok : EOk s) (hI : Idom s tree) (hP : POk s order place) (hn : 0 < s.length) (hs : s.length ≤ 1000000) {c : Nat} (hc : s.length + 5 < c) {k : Int} (hk : Rc s (-1) k) {reach : List Bool} (hrl : reach.length = s.length) (hr : ∀ i, 0 ≤ i → i < (s.length : Int) → (rdOf false reach i = true ↔ Rc s (-1) i)) :
    ∀ (l : List Int) (out : List (List Int)), (∀ p, p ∈ l → 0 ≤ p ∧ p < (s.length : Int)) → RowsOk s.length out → ∃ out', rims.row c tree reach k l out = some out' ∧ RowsOk s.length out' ∧ More out out' ∧ ∀ p, p ∈ l → Has s tree out' k p
  | [], out, _, hR => ⟨out, rfl, hR, More.refl _, fun p hp => absurd hp (by simp)⟩
  | p :: l, out, hl, hR => by
    obtain ⟨p0, p1⟩ := hl p (by simp)
    have hl' : ∀ q, q ∈ l → 0 ≤ q ∧ q < (s.length : Int) := fun q hq => hl q (by simp [hq])
    rw [rims.row, if_pos ⟨p0, by omega⟩]
    by_cases hp : rdOf false reach p = true
    · rw [if_pos hp]
      have hpr := (hr p p0 p1).1 hp
      have hpn := hP.nn p hpr
      obtain ⟨o1, e1, r1, m1, h1⟩ := up_spec hok hI hP hn hs (c := c) (by omega) hk c p out hpr (by omega) hR
      obtain ⟨o2, e2, r2, m2, h2⟩ := row_spec hok hI hP hn hs hc hk hrl hr l o1 hl' r1
      refine ⟨o2, by rw [e1, Option.bind_some]; exact e2, r2, m1.trans m2, fun q hq => ?_⟩
      rcases List.mem_cons.1 hq with h | h
      · subst h
        exact Has.more (fun _ => h1) m2
      · exact h2 q h
    · rw [if_neg hp]
      obtain ⟨o2, e2, r2, m2, h2⟩ := row_spec hok hI hP hn hs hc hk hrl hr l out hl' hR
      refine ⟨o2, e2, r2, m2, fun q hq => ?_⟩
      rcases List.mem_cons.1 hq with h | h
      · subst h
        exact fun hq => absurd ((hr q p0 p1).2 hq) hp
      · exact h2 q h
theorem all_spec (hok : EOk s) (hI : Idom s tree) (hP : POk s order place) (hn : 0 < s.length) (hs : s.length ≤ 1000000) {c : Nat} (hc : s.length + 5 < c) {reach : List Bool} (hrl : reach.length = s.length) (hr : ∀ i, 0 ≤ i → i < (s.length : Int) → (rdOf false reach i = true ↔ Rc s (-1) i)) {preds : List (List Int)} (hR : PrOk s preds) :
    ∀ (l : List Bool) (j : Nat) (out : List (List Int)), reach.drop j = l → j + l.length = s.length → RowsOk s.length out → ∃ out', rims.all c tree preds reach l (j : Int) out = some out' ∧ RowsOk s.length out' ∧ More out out' ∧ ∀ k : Int, (j : Int) ≤ k → Rc s (-1) k → ∀ p, E s p k → Has s tree out' k p
  | [], j, out, hd, hj, hO => ⟨out, rfl, hO, More.refl _, fun k hk hkr => by have := hkr.range hok hn; simp at hj; omega⟩
  | is :: l, j, out, hd, hj, hO => by
    have hjl : j < s.length := by simp at hj; omega
    have his : rdOf false reach (j : Int) = is := by
      have := congrArg List.head? hd
      rw [List.head?_drop] at this
      simp at this
      simp [rdOf, List.getD, this]
    have hd' : reach.drop (j + 1) = l := by rw [← List.drop_drop, hd]; rfl
    have hlen := hR.1
    rw [rims.all]
    by_cases h : is = true
    · rw [if_pos h, if_pos (by omega)]
      have hjr := (hr (j : Int) (by omega) (by omega)).1 (by rw [his]; exact h)
      obtain ⟨o1, e1, r1, m1, h1⟩ := row_spec hok hI hP hn hs hc hjr hrl hr (preds.getD (j : Int).toNat []) out (fun p hp => by have := (hR.2 (j : Int) (by omega) (by omega) p).1 hp; exact ⟨this.1, this.2.1⟩) hO
      obtain ⟨o2, e2, r2, m2, h2⟩ := all_spec hok hI hP hn hs hc hrl hr hR l (j + 1) o1 hd' (by simp at hj; omega) r1
      refine ⟨o2, by rw [e1, Option.bind_some]; exact e2, r2, m1.trans m2, fun k hk hkr p hp => ?_⟩
      by_cases e : k = (j : Int)
      · subst e
        exact (h1 p ((hR.2 _ (by omega) (by omega) p).2 hp)).more m2
      · exact h2 k (by omega) hkr p hp
    · rw [if_neg h]
      obtain ⟨o2, e2, r2, m2, h2⟩ := all_spec hok hI hP hn hs hc hrl hr hR l (j + 1) out hd' (by simp at hj; omega) hO
      refine ⟨o2, e2, r2, m2, fun k hk hkr p hp => ?_⟩
      by_cases e : k = (j : Int)
      · subst e
        exact absurd (by rw [← his]; exact (hr _ (by omega) (by omega)).2 hkr) h
      · exact h2 k (by omega) hkr p hp
end
/-- A frontier: who dominates one that goes to a block, but not the block strictly, has it in its rim. -/
theorem rims_ev (bs : List (List (S50))) (a0 : ByteArray) (a1 a2 : Int) (l3 : List Int) (hB : BOk bs) (h0 : 0 < bs.length) : ∃ rm, Ev (fun k => rim_Rims.f k a0 a1 a2 l3 bs) rm ∧ rm.length = bs.length ∧
    ∀ k p x, Rc (edges bs) (-1) k → E (edges bs) p k → Dom (edges bs) x p → (x = k ∨ ¬ Dom (edges bs) x k) → k ∈ rm.getD x.toNat [] := by
  have hn := hB.n
  have hl := edges_len bs
  obtain ⟨tree, order, place, ht, hI, hP⟩ := tree_ev bs a0 a1 a2 l3 hB h0
  obtain ⟨seen, hs, hsl, hsr⟩ := reach_ev bs a0 a1 a2 l3 hB h0
  have hok := edges_ok bs
  have hrep : RowsOk (edges bs).length (List.replicate (edges bs).length []) := ⟨by simp, fun x => by
    have : (List.replicate (edges bs).length ([] : List Int)).getD x [] = [] := by
      rw [List.getD_eq_getElem?_getD, List.getElem?_replicate]
      split <;> rfl
    rw [this]
    simp⟩
  have all : ∀ c, (edges bs).length + 5 < c → ∃ out', rims.all c tree (predsOf (edges bs)) seen seen 0 (List.replicate (edges bs).length []) = some out' ∧ RowsOk (edges bs).length out' ∧ ∀ k : Int, Rc (edges bs) (-1) k → ∀ p, E (edges bs) p k → Has (edges bs) tree out' k p := fun c hc => by
    obtain ⟨o, e, r, _, h⟩ := all_spec hok hI hP (by omega) (by omega) hc (by omega) (by rw [hl]; exact hsr) (predsOf_ok (edges bs) hok) seen 0 _ rfl (by omega) hrep
    exact ⟨o, e, r, fun k hk p hp => h k (by have := hk.range hok (by omega); omega) hk p hp⟩
  obtain ⟨rm, e, hR, hH⟩ := all ((edges bs).length + 6) (by omega)
  refine ⟨rm, ?_, by rw [hR.1, hl], fun k p x hk hp hx hnd => ?_⟩
  · unfold rim_Rims.f
    refine Ev.bind ht (Ev.bind (preds_ev bs a0 a1 a2 l3 hB) (Ev.bind hs ?_))
    refine Ev.of_eq (Ev.of_mono (fun k => rims.all_mono k tree (predsOf (edges bs)) seen seen 0 (List.replicate (edges bs).length [])) e) fun k => ?_
    rw [if_pos (by omega), hl]
  · have hpr := hx.1
    refine hH k hk p hp hpr x (dom_anc hI hP _ p (by have := (hP.nn p hpr).2; exact this) hx) (fun y hy hxy e => ?_)
    by_cases hk0 : k = 0
    · subst hk0
      rw [hI.t0] at e
      have := (anc_dom hI hy hpr).reach.range hok (by omega)
      omega
    · obtain ⟨i1, i2, i3⟩ := hI.id k hk hk0
      rw [e] at hxy
      have hxt := anc_dom hI hxy i1.reach
      rcases hnd with h | h
      · subst h
        exact i2 (i1.antisymm hP hxt)
      · exact h (hxt.trans i1)
end Go.Proofs.Ytjibojmbhbaneaa.PRm
