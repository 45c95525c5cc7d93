/- Plain law: where ways meet, there is the rim again and again of where they began. -/
import Derived.Test.YtjibojmbhbaneaaXPWithout
import Derived.Test.YtjibojmbhbaneaaXPRims
import Derived.Test.YtjibojmbhbaneaaPRmx12
namespace Go.Proofs.Ytjibojmbhbaneaa.PRm
open Go.RowKit Go.Proofs.YtjibojmbhbaneaaW.PrintWords Go.Proofs.YtjibojmbhbaneaaW.PrintLast Go.Proofs.YtjibojmbhbaneaaW.PrintMore Go.Proofs.Ytjibojmbhbaneaa.X Go.Proofs.Ytjibojmbhbaneaa.Dm
set_option linter.unusedVariables false
set_option linter.unusedSimpArgs false
/-- From a on, within A, by edges. -/
inductive Wy (s : List (List Int)) (A : List Int) (a : Int) : Int → Prop where
  | base : a ∈ A → Wy s A a a
  | step (w t : Int) : Wy s A a w → E s w t → t ∈ A → Wy s A a t
theorem Wy.more {s : List (List Int)} {A B : List Int} {a w : Int} (h : Wy s A a w) (hs : ∀ x, x ∈ A → x ∈ B) : Wy s B a w := by
  induction h with
  | base h => exact .base (hs _ h)
  | step w t _ e ht ih => exact .step w t ih e (hs _ ht)
theorem Wy.mem {s : List (List Int)} {A : List Int} {a w : Int} (h : Wy s A a w) : w ∈ A := by
  cases h with
  | base h => exact h
  | step _ _ _ _ h => exact h
section
variable {s : List (List Int)} {order place : List Int}
/-- The last block of a way that is a, or in the rim again and again, dominates what comes behind it. -/
theorem head_of {J : Int → Prop} {A : List Int} {a : Int} (hJ : ∀ k p x, (x = a ∨ J x) → Rc s (-1) k → E s p k → Dom s x p → (x = k ∨ ¬ Dom s x k) → J k) (ha : Rc s (-1) a) (hok : EOk s) {w : Int} (h : Wy s A a w) :
    ∃ x, x ∈ A ∧ (x = a ∨ J x) ∧ Dom s x w ∧ ∀ y, (∀ z, z ∈ A → z ≠ y) → Rc s y x → Rc s y w := by
  induction h with
  | base h => exact ⟨a, h, .inl rfl, Dom.self ha, fun y _ h => h⟩
  | step w t hw e ht ih =>
    obtain ⟨x, x1, x2, x3, x4⟩ := ih
    have htr : Rc s (-1) t := x3.1.next e (by have := (hok _ _ e).1; omega)
    by_cases hd : Dom s x t
    · exact ⟨x, x1, x2, hd, fun y hy hx => (x4 y hy hx).next e (hy t ht)⟩
    · exact ⟨t, ht, .inr (hJ t w x x2 htr e x3 (.inr hd)), Dom.self htr, fun y _ h => h⟩
/-- Two ways that have nothing in common ahead of where they meet. -/
theorem meets (hP : POk s order place) {J : Int → Prop} {A B : List Int} {a b c wa wb : Int} (hok : EOk s) (ha : Rc s (-1) a) (hb : Rc s (-1) b)
    (hJa : ∀ k p x, (x = a ∨ J x) → Rc s (-1) k → E s p k → Dom s x p → (x = k ∨ ¬ Dom s x k) → J k) (hJb : ∀ k p x, (x = b ∨ J x) → Rc s (-1) k → E s p k → Dom s x p → (x = k ∨ ¬ Dom s x k) → J k)
    (hA : Wy s A a wa) (ea : E s wa c) (hB : Wy s B b wb) (eb : E s wb c) (hdis : ∀ x, x ∈ A → x ∉ B) : J c := by
  obtain ⟨x, x1, x2, x3, x4⟩ := head_of hJa ha hok hA
  obtain ⟨y, y1, y2, y3, y4⟩ := head_of hJb hb hok hB
  have hc : Rc s (-1) c := x3.1.next ea (by have := (hok _ _ ea).1; omega)
  by_cases h1 : x = c ∨ ¬ Dom s x c
  · exact hJa c wa x x2 hc ea x3 h1
  by_cases h2 : y = c ∨ ¬ Dom s y c
  · exact hJb c wb y y2 hc eb y3 h2
  exfalso
  have n1 : x ≠ c := fun h => h1 (.inl h)
  have n2 : y ≠ c := fun h => h2 (.inl h)
  have d1 : Dom s x c := Classical.byContradiction fun h => h1 (.inr h)
  have d2 : Dom s y c := Classical.byContradiction fun h => h2 (.inr h)
  have k1 : Dom s y x := ⟨d1.reach, fun h => d2.2 ((x4 y (fun z hz e => hdis z hz (by rw [e]; exact y1)) h).next ea (fun e => n2 e.symm))⟩
  have k2 : Dom s x y := ⟨d2.reach, fun h => d1.2 ((y4 x (fun z hz e => hdis x x1 (by rw [← e]; exact hz)) h).next eb (fun e => n1 e.symm))⟩
  have e := k1.antisymm hP k2
  exact hdis x x1 (by rw [← e]; exact y1)
/-- What free tells. -/
def FreeOk (s : List (List Int)) (but : List Int) (b c : Int) : Prop := ∃ B wb, Wy s B b wb ∧ E s wb c ∧ ∀ x, x ∈ but → x ∉ B
structure FInv (s : List (List Int)) (but : List Int) (b : Int) (l : List Int) : Prop where
  way : ∀ x, x ∈ l → Wy s l b x
  nb : ∀ x, x ∈ l → x ∉ but
  rg : ∀ x, x ∈ l → 0 ≤ x ∧ x < (s.length : Int)
  nd : l.Nodup
theorem FInv.len {but : List Int} {b : Int} {l : List Int} (h : FInv s but b l) : l.length ≤ s.length := nodup_len h.nd h.rg
theorem FInv.add {but : List Int} {b : Int} {l : List Int} (hok : EOk s) (h : FInv s but b l) {x t : Int} (hx : x ∈ l) (e : E s x t) (h1 : t ∉ but) (h2 : t ∉ l) : FInv s but b (l ++ [t]) := by
  refine ⟨fun y hy => ?_, fun y hy => ?_, fun y hy => ?_, List.nodup_append.2 ⟨h.nd, by simp, fun u hu v hv e => h2 (by rw [List.mem_singleton] at hv; rw [← hv, ← e]; exact hu)⟩⟩
  · rcases List.mem_append.1 hy with hy | hy
    · exact (h.way y hy).more (fun z hz => List.mem_append.2 (.inl hz))
    · rw [List.mem_singleton] at hy
      subst hy
      exact .step x y ((h.way x hx).more (fun z hz => List.mem_append.2 (.inl hz))) e (by simp)
  · rcases List.mem_append.1 hy with hy | hy
    · exact h.nb y hy
    · rw [List.mem_singleton.1 hy]; exact h1
  · rcases List.mem_append.1 hy with hy | hy
    · exact h.rg y hy
    · rw [List.mem_singleton.1 hy]; exact hok _ _ e
/-- f tells, and what is told true is so. -/
def Says (f : Nat → Option Bool) (P : Prop) : Prop := ∃ r, Ev f r ∧ (r = true → P)
theorem Says.of_eq {f g : Nat → Option Bool} {P : Prop} (h : Says g P) (e : ∀ k, f k = g k) : Says f P := by obtain ⟨r, h1, h2⟩ := h; exact ⟨r, h1.of_eq e, h2⟩
theorem Says.succ {f : Nat → Option Bool} {P : Prop} (h : Says (fun k => f (k + 1)) P) : Says f P := by obtain ⟨r, h1, h2⟩ := h; exact ⟨r, h1.succ, h2⟩
theorem Says.no (P : Prop) : Says (fun _ => some false) P := ⟨false, Ev.const _, fun h => absurd h (by simp)⟩
theorem Says.yes {P : Prop} (h : P) : Says (fun _ => some true) P := ⟨true, Ev.const _, fun _ => h⟩
section
variable (hok : EOk s) (hs : s.length ≤ 1000000) (hrow : ∀ j, (s.getD j []).length ≤ 1000000) (but : List Int) (hbut : but.length ≤ 1000000) (b c : Int)
include hok hs hrow hbut in
theorem free_l1 (n : Nat) (ih : ∀ (l : List Int) (i : Nat), FInv s but b l → i ≤ l.length → l.length ≤ s.length → s.length - i < n → Says (fun k => balustraderef29_free.l0 k s but c l (i : Int)) (FreeOk s but b c)) (i : Nat) (x : Int) :
    ∀ (m q : Nat) (l : List Int), m = (s.getD x.toNat []).length - q → q ≤ (s.getD x.toNat []).length → FInv s but b l → (hi : i < l.length) → l[i] = x → s.length - (i + 1) < n →
      Says (fun k => balustraderef29_free.l1 k s but c l (i : Int) (q : Int)) (FreeOk s but b c)
  | 0, q, l, hm, hq, hF, hi, hx, hn => by
    have hlen := hF.len
    have hxr := hF.rg x (by rw [← hx]; exact List.getElem_mem hi)
    have hr : rd l (i : Int) = x := by rw [rd_nat l i hi, hx]
    refine Says.succ (Says.of_eq (ih l (i + 1) hF (by omega) hlen hn) fun k => ?_)
    have h2 : rd_L2 s x = s.getD x.toNat [] := rfl
    rw [balustraderef29_free.l1, if_pos (by omega), if_pos (by omega), hr, if_pos hxr.1, if_pos hxr.2, h2, if_neg (by omega), wr1 i (by omega)]
  | m + 1, q, l, hm, hq, hF, hi, hx, hn => by
    have hlen := hF.len
    have hmem : x ∈ l := by rw [← hx]; exact List.getElem_mem hi
    have hxr := hF.rg x hmem
    have hr : rd l (i : Int) = x := by rw [rd_nat l i hi, hx]
    have h2 : rd_L2 s x = s.getD x.toNat [] := rfl
    have hqlt : q < (s.getD x.toNat []).length := by omega
    have hrl := hrow x.toNat
    have ht : rd (s.getD x.toNat []) (q : Int) = (s.getD x.toNat [])[q] := rd_nat _ q hqlt
    have he : E s x (s.getD x.toNat [])[q] := ⟨hxr.1, hxr.2, List.getElem_mem hqlt⟩
    by_cases hc : (s.getD x.toNat [])[q] = c
    · refine Says.succ (Says.of_eq (Says.yes ⟨l, x, hF.way x hmem, by rw [← hc]; exact he, fun z hz hl => hF.nb z hl hz⟩) fun k => ?_)
      rw [balustraderef29_free.l1, if_pos (by omega), if_pos (by omega), hr, if_pos hxr.1, if_pos hxr.2, h2, if_pos (by omega), if_pos (by omega), ht, if_pos hc]
    · have h3 := HasInt_ev but (s.getD x.toNat [])[q] (by omega)
      have h4 := HasInt_ev l (s.getD x.toNat [])[q] (by omega)
      have hun : ∀ k, balustraderef29_free.l1 (k + 1) s but c l (i : Int) (q : Int) = (balustradebase_HasInt.f k but (s.getD x.toNat [])[q]).bind fun t350 => (if t350 = true then (balustraderef29_free.l1 k s but c l (i : Int) ((q + 1 : Nat) : Int)) else ((balustradebase_HasInt.f k l (s.getD x.toNat [])[q]).bind fun t351 => (if t351 = true then (balustraderef29_free.l1 k s but c l (i : Int) ((q + 1 : Nat) : Int)) else (balustraderef29_free.l1 k s but c (l ++ [(s.getD x.toNat [])[q]]) (i : Int) ((q + 1 : Nat) : Int))))) := fun k => by
        rw [balustraderef29_free.l1, if_pos (by omega), if_pos (by omega), hr, if_pos hxr.1, if_pos hxr.2, h2, if_pos (by omega), if_pos (by omega), ht, if_neg hc, wr1 q (by omega)]
        congr 1
        funext t
        split
        · rfl
        · congr 1
          funext t
          split
          · rfl
          · rw [if_pos (by omega)]
      have same := free_l1 n ih i x m (q + 1) l (by omega) (by omega) hF hi hx hn
      obtain ⟨r0, e0, p0⟩ := same
      by_cases hb1 : (s.getD x.toNat [])[q] ∈ but
      · refine ⟨r0, Ev.succ (Ev.of_eq (Ev.bind h3 ?_) hun), p0⟩
        exact Ev.of_eq e0 fun k => by rw [if_pos (by simpa using hb1)]
      · by_cases hl1 : (s.getD x.toNat [])[q] ∈ l
        · refine ⟨r0, Ev.succ (Ev.of_eq (Ev.bind h3 (Ev.of_eq (g := fun k => (balustradebase_HasInt.f k l (s.getD x.toNat [])[q]).bind _) (Ev.bind h4 (Ev.of_eq e0 fun k => ?_)) fun k => if_neg (by simpa using hb1))) hun), p0⟩
          rw [if_pos (by simpa using hl1)]
        · obtain ⟨r1, e1, p1⟩ := free_l1 n ih i x m (q + 1) (l ++ [(s.getD x.toNat [])[q]]) (by omega) (by omega) (hF.add hok hmem he hb1 hl1) (by simp; omega) (by rw [List.getElem_append_left hi]; exact hx) hn
          refine ⟨r1, Ev.succ (Ev.of_eq (Ev.bind h3 (Ev.of_eq (g := fun k => (balustradebase_HasInt.f k l (s.getD x.toNat [])[q]).bind _) (Ev.bind h4 (Ev.of_eq e1 fun k => ?_)) fun k => if_neg (by simpa using hb1))) hun), p1⟩
          rw [if_neg (by simpa using hl1)]
include hok hs hrow hbut in
theorem free_l0 : ∀ (n : Nat) (l : List Int) (i : Nat), FInv s but b l → i ≤ l.length → l.length ≤ s.length → s.length - i < n → Says (fun k => balustraderef29_free.l0 k s but c l (i : Int)) (FreeOk s but b c)
  | 0, l, i, _, _, _, h => absurd h (by omega)
  | n + 1, l, i, hF, hi, hl, h => by
    by_cases hlt : i < l.length
    · have h1 := free_l1 hok hs hrow but hbut b c n (free_l0 n) i l[i] _ 0 l rfl (by omega) hF hlt rfl (by omega)
      exact Says.succ (Says.of_eq h1 fun k => by rw [balustraderef29_free.l0, if_pos (by omega)]; rfl)
    · exact Says.succ (Says.of_eq (Says.no _) fun k => by rw [balustraderef29_free.l0, if_neg (by omega)])
include hok hs hrow hbut in
theorem free_says (hb : 0 ≤ b ∧ b < (s.length : Int)) : Says (fun k => balustraderef29_free.f k s but b c) (FreeOk s but b c) := by
  have h3 := HasInt_ev but b (by omega)
  by_cases h : b ∈ but
  · refine ⟨false, ?_, fun h => absurd h (by simp)⟩
    unfold balustraderef29_free.f
    exact Ev.bind h3 (Ev.of_eq (Ev.const _) fun k => by rw [if_pos (by simpa using h)])
  · have hF : FInv s but b [b] := ⟨fun x hx => by rw [List.mem_singleton.1 hx]; exact .base (by simp), fun x hx => by rw [List.mem_singleton.1 hx]; exact h, fun x hx => by rw [List.mem_singleton.1 hx]; exact hb, by simp⟩
    obtain ⟨r, e, p⟩ := free_l0 hok hs hrow but hbut b c (s.length + 1) [b] 0 hF (by simp) (by simp; omega) (by omega)
    refine ⟨r, ?_, p⟩
    unfold balustraderef29_free.f
    exact Ev.bind h3 (Ev.of_eq e fun k => by rw [if_neg (by simpa using h)]; rfl)
end
/-- What joins tells. -/
def JoinOk (s : List (List Int)) (a b c : Int) : Prop := ∃ A wa B wb, Wy s A a wa ∧ E s wa c ∧ Wy s B b wb ∧ E s wb c ∧ ∀ x, x ∈ A → x ∉ B
section
variable (hok : EOk s) (hs : s.length ≤ 1000000) (hrow : ∀ j, (s.getD j []).length ≤ 1000000) (a b c : Int) (hb : 0 ≤ b ∧ b < (s.length : Int))
include hok hs hrow hb in
theorem joins_l0 (n : Nat) (way : List Int) (x : Int) (hway : Wy s way a x) (hrg : ∀ y, y ∈ way → 0 ≤ y ∧ y < (s.length : Int)) (hnd : way.Nodup)
    (ih : ∀ t, E s x t → t ∉ way → Says (fun k => balustraderef29_joins.f k s (way ++ [t]) b c) (JoinOk s a b c)) :
    ∀ (m q : Nat), m = (s.getD x.toNat []).length - q → q ≤ (s.getD x.toNat []).length → Says (fun k => balustraderef29_joins.l0 k s way b c x (q : Int)) (JoinOk s a b c)
  | 0, q, hm, hq => by
    have hxr := hrg x hway.mem
    have h2 : rd_L2 s x = s.getD x.toNat [] := rfl
    refine Says.succ (Says.of_eq (Says.no _) fun k => ?_)
    rw [balustraderef29_joins.l0, if_pos hxr.1, if_pos hxr.2, h2, if_neg (by omega)]
  | m + 1, q, hm, hq => by
    have hxr := hrg x hway.mem
    have hwl := nodup_len hnd hrg
    have h2 : rd_L2 s x = s.getD x.toNat [] := rfl
    have hqlt : q < (s.getD x.toNat []).length := by omega
    have hrl := hrow x.toNat
    have ht : rd (s.getD x.toNat []) (q : Int) = (s.getD x.toNat [])[q] := rd_nat _ q hqlt
    have he : E s x (s.getD x.toNat [])[q] := ⟨hxr.1, hxr.2, List.getElem_mem hqlt⟩
    obtain ⟨r0, e0, p0⟩ := joins_l0 n way x hway hrg hnd ih m (q + 1) (by omega) (by omega)
    by_cases hc : (s.getD x.toNat [])[q] = c
    · obtain ⟨r1, e1, p1⟩ := free_says hok hs hrow way (by omega) b c hb
      have hun : ∀ k, balustraderef29_joins.l0 (k + 1) s way b c x (q : Int) = (balustraderef29_free.f k s way b c).bind fun t359 => (if t359 = true then (some true) else (balustraderef29_joins.l0 k s way b c x ((q + 1 : Nat) : Int))) := fun k => by
        rw [balustraderef29_joins.l0, if_pos hxr.1, if_pos hxr.2, h2, if_pos (by omega), if_pos (by omega), ht, if_pos hc, wr1 q (by omega)]
      cases r1 with
      | true =>
        obtain ⟨B, wb, w1, w2, w3⟩ := p1 rfl
        exact ⟨true, Ev.succ (Ev.of_eq (Ev.bind e1 (Ev.of_eq (Ev.const _) fun k => if_pos rfl)) hun), fun _ => ⟨way, x, B, wb, hway, by rw [← hc]; exact he, w1, w2, w3⟩⟩
      | false => exact ⟨r0, Ev.succ (Ev.of_eq (Ev.bind e1 (Ev.of_eq e0 fun k => if_neg (by simp))) hun), p0⟩
    · have h3 := HasInt_ev way (s.getD x.toNat [])[q] (by omega)
      have hI := Ints_eq way (by omega)
      have hun : ∀ k, balustraderef29_joins.l0 (k + 1) s way b c x (q : Int) = (balustradebase_HasInt.f k way (s.getD x.toNat [])[q]).bind fun t360 => (if t360 = true then (balustraderef29_joins.l0 k s way b c x ((q + 1 : Nat) : Int)) else ((balustraderef29_joins.f k s (way ++ [(s.getD x.toNat [])[q]]) b c).bind fun t367 => (if t367 = true then (some true) else (balustraderef29_joins.l0 k s way b c x ((q + 1 : Nat) : Int))))) := fun k => by
        rw [balustraderef29_joins.l0, if_pos hxr.1, if_pos hxr.2, h2, if_pos (by omega), if_pos (by omega), ht, if_neg hc, wr1 q (by omega)]
        congr 1
        funext t
        split
        · rfl
        · rw [hI, Option.bind_some, if_pos (by omega)]
      by_cases hw : (s.getD x.toNat [])[q] ∈ way
      · exact ⟨r0, Ev.succ (Ev.of_eq (Ev.bind h3 (Ev.of_eq e0 fun k => if_pos (by simpa using hw))) hun), p0⟩
      · obtain ⟨r1, e1, p1⟩ := ih _ he hw
        cases r1 with
        | true => exact ⟨true, Ev.succ (Ev.of_eq (Ev.bind h3 (Ev.of_eq (g := fun k => (balustraderef29_joins.f k s (way ++ [(s.getD x.toNat [])[q]]) b c).bind _) (Ev.bind e1 (Ev.of_eq (Ev.const _) fun k => if_pos rfl)) fun k => if_neg (by simpa using hw))) hun), p1⟩
        | false => exact ⟨r0, Ev.succ (Ev.of_eq (Ev.bind h3 (Ev.of_eq (g := fun k => (balustraderef29_joins.f k s (way ++ [(s.getD x.toNat [])[q]]) b c).bind _) (Ev.bind e1 (Ev.of_eq e0 fun k => if_neg (by simp))) fun k => if_neg (by simpa using hw))) hun), p0⟩
include hok hs hrow hb in
theorem joins_says : ∀ (n : Nat) (way : List Int) (x : Int), s.length - way.length < n → Wy s (way ++ [x]) a x → (∀ y, y ∈ way ++ [x] → 0 ≤ y ∧ y < (s.length : Int)) → (way ++ [x]).Nodup → Says (fun k => balustraderef29_joins.f k s (way ++ [x]) b c) (JoinOk s a b c)
  | 0, way, x, h, _, _, _ => absurd h (by omega)
  | n + 1, way, x, h, hw, hrg, hnd => by
    have hwl := nodup_len hnd hrg
    have hl : (way ++ [x]).length = way.length + 1 := by simp
    have key := joins_l0 hok hs hrow a b c hb n (way ++ [x]) x hw hrg hnd (fun t e ht => by
      refine joins_says n (way ++ [x]) t (by omega) (.step x t (hw.more (fun z hz => List.mem_append.2 (.inl hz))) e (by simp)) (fun y hy => ?_) ?_
      · rcases List.mem_append.1 hy with hy | hy
        · exact hrg y hy
        · rw [List.mem_singleton.1 hy]; exact hok _ _ e
      · exact List.nodup_append.2 ⟨hnd, by simp, fun u hu v hv e => ht (by rw [List.mem_singleton] at hv; rw [← hv, ← e]; exact hu)⟩) _ 0 rfl (by omega)
    refine Says.succ (Says.of_eq key fun k => ?_)
    have hwr : wrap64 (((way ++ [x]).length : Int) - 1) = ((way.length : Nat) : Int) := by unfold wrap64; omega
    rw [balustraderef29_joins.f, hwr, if_pos (by omega), if_pos (by omega), rd_nat _ _ (by omega)]
    have : (way ++ [x])[way.length]'(by omega) = x := by simp
    rw [this]
    rfl
end
end
/-- The reference's Joins: what it tells true is so. -/
theorem rjoins_says (bs : List (List (S50))) (a0 : ByteArray) (a1 a2 : Int) (l3 : List Int) (hB : BOk bs) (a b c : Int) (ha : 0 ≤ a ∧ a < (bs.length : Int)) (hb : 0 ≤ b ∧ b < (bs.length : Int)) :
    Says (fun k => balustraderef29_Joins.f k a0 a1 a2 l3 bs a b c) (JoinOk (edges bs) a b c) := by
  have hl := edges_len bs
  have hn := hB.n
  obtain ⟨r, e, p⟩ := joins_says (edges_ok bs) (by omega) (edges_row bs) a b c (by omega) ((edges bs).length + 1) [] a (by simp) (.base (by simp)) (fun y hy => by simp at hy; omega) (by simp)
  refine ⟨r, ?_, p⟩
  unfold balustraderef29_Joins.f
  exact Ev.bind (rsuccs_ev a0 a1 a2 l3 bs hB) (Ev.bind e (Ev.const _))
end Go.Proofs.Ytjibojmbhbaneaa.PRm
