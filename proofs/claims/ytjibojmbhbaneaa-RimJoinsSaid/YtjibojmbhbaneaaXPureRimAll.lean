/- The plain law of RimAll: the worklist's rim and the reference's are one. -/
import Derived.Test.YtjibojmbhbaneaaPRmx7
import Derived.Test.YtjibojmbhbaneaaPRmx8
import Derived.Test.YtjibojmbhbaneaaXEv
import Derived.Test.YtjibojmbhbaneaaXWorks29
import Derived.Test.YtjibojmbhbaneaaXRimAll
namespace Go.Proofs.Ytjibojmbhbaneaa.PRm
open Go.RowKit Go.Proofs.YtjibojmbhbaneaaW.PrintWords Go.Proofs.YtjibojmbhbaneaaW.PrintLast Go.Proofs.YtjibojmbhbaneaaW.PrintMore Go.Proofs.Ytjibojmbhbaneaa.X
set_option linter.unusedVariables false
set_option linter.unusedSimpArgs false
def okB (n : Nat) (x : Int) : Prop := 0 ≤ x ∧ x < (n : Int)
instance (n : Nat) (x : Int) : Decidable (okB n x) := by unfold okB; infer_instance
/-- Row a of the rims. -/
def rrow (rims : List (List Int)) (a : Int) : List Int := rims.getD a.toNat []
/-- S holds what one step from l, or from S, leads to. -/
def Cl (rims : List (List Int)) (l : List Int) (S : Int → Prop) : Prop := ∀ a t, (a ∈ l ∨ S a) → okB rims.length a → t ∈ rrow rims a → okB rims.length t → S t
def addOne (n : Nat) (out : List Int) (t : Int) : List Int := if okB n t ∧ t ∉ out then out ++ [t] else out
def addAll (n : Nat) (out l : List Int) : List Int := l.foldl (addOne n) out
def addFrom (rims : List (List Int)) (out fr : List Int) : List Int := fr.foldl (fun out a => if okB rims.length a then addAll rims.length out (rrow rims a) else out) out
/-- No number twice, each a block. -/
def Good (n : Nat) (out : List Int) : Prop := out.Nodup ∧ ∀ x ∈ out, okB n x
theorem len_of_sub : ∀ {a b : List Nat}, a.Nodup → a ⊆ b → a.length ≤ b.length
  | [], b, _, _ => Nat.zero_le _
  | x :: a, b, hn, hs => by
    rw [List.nodup_cons] at hn
    have hx : x ∈ b := hs List.mem_cons_self
    have h1 : a ⊆ b.erase x := fun y hy => (List.mem_erase_of_ne (fun e => hn.1 (by rw [← e]; exact hy))).2 (hs (List.mem_cons_of_mem _ hy))
    have h2 := len_of_sub hn.2 h1
    have h3 := List.length_erase_of_mem hx
    have h4 := List.length_pos_of_mem hx
    rw [List.length_cons]
    omega
theorem Good.le {n : Nat} {out : List Int} (h : Good n out) : out.length ≤ n := by
  have h1 : (out.map Int.toNat).Nodup := by
    rw [List.Nodup, List.pairwise_map]
    exact h.1.imp_of_mem (fun {a b} ha hb hne e => hne (by
      have h2 := h.2 a ha
      have h3 := h.2 b hb
      unfold okB at h2 h3
      omega))
  have h2 : (out.map Int.toNat) ⊆ List.range n := by
    intro y hy
    obtain ⟨x, hx, rfl⟩ := List.mem_map.1 hy
    have := h.2 x hx
    unfold okB at this
    rw [List.mem_range]
    omega
  have h3 := len_of_sub h1 h2
  simpa using h3
theorem Good.one {n : Nat} {out : List Int} (h : Good n out) (t : Int) : Good n (addOne n out t) := by
  unfold addOne
  split
  · rename_i hc
    refine ⟨?_, ?_⟩
    · rw [List.nodup_append]
      refine ⟨h.1, by simp, ?_⟩
      intro a ha b hb
      rw [List.mem_singleton] at hb
      subst hb
      exact fun e => hc.2 (e ▸ ha)
    · intro x hx
      rcases List.mem_append.1 hx with hx | hx
      · exact h.2 x hx
      · rw [List.mem_singleton] at hx; subst hx; exact hc.1
  · exact h
theorem Good.all {n : Nat} {l : List Int} : ∀ {out : List Int}, Good n out → Good n (addAll n out l) := by
  induction l with
  | nil => exact fun h => h
  | cons t l ih => exact fun h => ih (h.one t)
theorem Good.fr {rims : List (List Int)} : ∀ {fr out : List Int}, Good rims.length out → Good rims.length (addFrom rims out fr)
  | [], out, h => h
  | a :: fr, out, h => by
    show Good _ (addFrom rims (if okB rims.length a then addAll rims.length out (rrow rims a) else out) fr)
    split
    · exact Good.fr h.all
    · exact Good.fr h
/-! ### The worklist -/
theorem go_row (n : Nat) (hn : n ≤ 30) : ∀ (l met wt : List Int), Good n met → wt.length + n ≤ met.length + 17592186044414 → ∃ ext, rall.row n l (met, wt) = some (met ++ ext, wt ++ ext) ∧ Good n (met ++ ext) ∧ (∀ x, x ∈ met ++ ext ↔ x ∈ met ∨ (x ∈ l ∧ okB n x))
  | [], met, wt, hg, hb => ⟨[], by simp [rall.row], by simpa using hg, by simp⟩
  | t :: l, met, wt, hg, hb => by
    rw [rall.row]
    by_cases h1 : t ∈ met
    · rw [if_pos h1]
      obtain ⟨ext, e1, e2, e3⟩ := go_row n hn l met wt hg hb
      refine ⟨ext, e1, e2, fun x => ?_⟩
      rw [e3, List.mem_cons]
      constructor
      · rintro (h | ⟨h, hk⟩)
        · exact .inl h
        · exact .inr ⟨.inr h, hk⟩
      · rintro (h | ⟨rfl | h, hk⟩)
        · exact .inl h
        · exact .inl h1
        · exact .inr ⟨h, hk⟩
    · rw [if_neg h1]
      have other : ¬ okB n t → ∃ ext, rall.row n l (met, wt) = some (met ++ ext, wt ++ ext) ∧ Good n (met ++ ext) ∧ (∀ x, x ∈ met ++ ext ↔ x ∈ met ∨ (x ∈ t :: l ∧ okB n x)) := by
        intro hk0
        obtain ⟨ext, e1, e2, e3⟩ := go_row n hn l met wt hg hb
        refine ⟨ext, e1, e2, fun x => ?_⟩
        rw [e3, List.mem_cons]
        constructor
        · rintro (h | ⟨h, hk⟩)
          · exact .inl h
          · exact .inr ⟨.inr h, hk⟩
        · rintro (h | ⟨rfl | h, hk⟩)
          · exact .inl h
          · exact absurd hk hk0
          · exact .inr ⟨h, hk⟩
      by_cases h2 : t < 0
      · rw [if_pos h2]
        exact other (fun h => by unfold okB at h; omega)
      · rw [if_neg h2]
        by_cases h3 : t < (n : Int)
        · have hk0 : okB n t := ⟨by omega, h3⟩
          have hg1 : Good n (met ++ [t]) := by
            have := hg.one t
            rw [addOne, if_pos ⟨hk0, h1⟩] at this
            exact this
          have hle := hg1.le
          simp at hle
          rw [if_pos h3, if_pos (by show wt.length < _; omega)]
          obtain ⟨ext, e1, e2, e3⟩ := go_row n hn l (met ++ [t]) (wt ++ [t]) hg1 (by simp; omega)
          refine ⟨t :: ext, by rw [e1]; simp, by simpa using e2, fun x => ?_⟩
          rw [show met ++ t :: ext = met ++ [t] ++ ext by simp, e3, List.mem_append, List.mem_singleton, List.mem_cons]
          constructor
          · rintro ((h | rfl) | ⟨h, hk⟩)
            · exact .inl h
            · exact .inr ⟨.inl rfl, hk0⟩
            · exact .inr ⟨.inr h, hk⟩
          · rintro (h | ⟨rfl | h, hk⟩)
            · exact .inl (.inl h)
            · exact .inl (.inr rfl)
            · exact .inr ⟨h, hk⟩
        · rw [if_neg h3]
          exact other (fun h => by unfold okB at h; omega)
theorem go_all (rims : List (List Int)) (l : List Int) (hn : rims.length ≤ 30) (hl : l.length ≤ 30) : ∀ (m k : Nat) (met wt : List Int), m = wt.length + (rims.length - met.length) → m < k → m ≤ 60 → Good rims.length met →
    (∀ x ∈ wt, x ∈ l ∨ x ∈ met) → (∀ a t, (a ∈ l ∨ a ∈ met) → okB rims.length a → t ∈ rrow rims a → okB rims.length t → a ∈ wt ∨ t ∈ met) → (∀ S, Cl rims l S → ∀ x ∈ met, S x) →
    ∃ r, rall.go rims k (met, wt) = some r ∧ Good rims.length r ∧ Cl rims l (· ∈ r) ∧ ∀ S, Cl rims l S → ∀ x ∈ r, S x
  | m, 0, met, wt, _, h, _, _, _, _, _ => by omega
  | m, k + 1, met, wt, hm, hk, h60, hg, hw, hc, hS => by
    rw [rall.go]
    have hle := hg.le
    by_cases h0 : 0 < wt.length
    · rw [if_pos (by exact h0)]
      obtain ⟨x, hx⟩ : ∃ x, x = rd wt ((wt.length : Int) - 1) := ⟨_, rfl⟩
      have hxe : x = wt[wt.length - 1] := by
        rw [hx, show ((wt.length : Int) - 1) = ((wt.length - 1 : Nat) : Int) by omega, rd_nat wt (wt.length - 1) (by omega)]
      have hsplit : wt = wt.take (wt.length - 1) ++ [x] := by
        have h1 := List.take_append_drop (wt.length - 1) wt
        rw [List.drop_eq_getElem_cons (by omega : wt.length - 1 < wt.length), List.drop_eq_nil_of_le (by omega), ← hxe] at h1
        exact h1.symm
      have hmw : ∀ y, y ∈ wt ↔ y ∈ wt.take (wt.length - 1) ∨ y = x := by
        intro y
        conv => lhs; rw [hsplit]
        rw [List.mem_append, List.mem_singleton]
      have htl : (wt.take (wt.length - 1)).length = wt.length - 1 := by rw [List.length_take]; omega
      simp only
      rw [← hx]
      have skip : ¬ okB rims.length x → ∃ r, rall.go rims k (met, wt.take (wt.length - 1)) = some r ∧ Good rims.length r ∧ Cl rims l (· ∈ r) ∧ ∀ S, Cl rims l S → ∀ x ∈ r, S x := by
        intro hk0
        refine go_all rims l hn hl (m - 1) k met (wt.take (wt.length - 1)) (by rw [htl]; omega) (by omega) (by omega) hg (fun y hy => hw y ((hmw y).2 (.inl hy))) ?_ hS
        intro a t ha hka ht hkt
        rcases hc a t ha hka ht hkt with h | h
        · rcases (hmw a).1 h with h | rfl
          · exact .inl h
          · exact absurd hka hk0
        · exact .inr h
      by_cases h1 : x < 0
      · rw [if_pos h1]
        exact skip (fun h => by unfold okB at h; omega)
      · rw [if_neg h1]
        by_cases h2 : x < (rims.length : Int)
        · rw [if_pos h2]
          have hkx : okB rims.length x := ⟨by omega, h2⟩
          obtain ⟨ext, e1, e2, e3⟩ := go_row rims.length hn (rims.getD x.toNat []) met (wt.take (wt.length - 1)) hg (by rw [htl]; omega)
          rw [e1]
          have hle2 := e2.le
          rw [List.length_append] at hle2
          refine go_all rims l hn hl (m - 1) k (met ++ ext) (wt.take (wt.length - 1) ++ ext) (by rw [List.length_append, List.length_append, htl]; omega) (by omega) (by omega) e2 ?_ ?_ ?_
          · intro y hy
            rcases List.mem_append.1 hy with hy | hy
            · rcases hw y ((hmw y).2 (.inl hy)) with h | h
              · exact .inl h
              · exact .inr (List.mem_append_left _ h)
            · exact .inr (List.mem_append_right _ hy)
          · intro a t ha hka ht hkt
            rcases Classical.em (a = x) with rfl | hax
            · exact .inr ((e3 t).2 (.inr ⟨ht, hkt⟩))
            · rcases ha with ha | ha
              · rcases hc a t (.inl ha) hka ht hkt with h | h
                · rcases (hmw a).1 h with h | h
                  · exact .inl (List.mem_append_left _ h)
                  · exact absurd h hax
                · exact .inr (List.mem_append_left _ h)
              · rcases List.mem_append.1 ha with ha | ha
                · rcases hc a t (.inr ha) hka ht hkt with h | h
                  · rcases (hmw a).1 h with h | h
                    · exact .inl (List.mem_append_left _ h)
                    · exact absurd h hax
                  · exact .inr (List.mem_append_left _ h)
                · exact .inl (List.mem_append_right _ ha)
          · intro S hCl y hy
            rcases (e3 y).1 hy with h | ⟨h, hky⟩
            · exact hS S hCl y h
            · refine hCl x y ?_ hkx h hky
              rcases hw x ((hmw x).2 (.inr rfl)) with h | h
              · exact .inl h
              · exact .inr (hS S hCl x h)
        · rw [if_neg h2]
          exact skip (fun h => by unfold okB at h; omega)
    · rw [if_neg (by exact h0)]
      have : wt = [] := List.length_eq_zero_iff.1 (by omega)
      subst this
      exact ⟨met, rfl, hg, fun a t ha hka ht hkt => (hc a t ha hka ht hkt).resolve_left (by simp), hS⟩
theorem rim_All_ev (rims : List (List Int)) (l : List Int) (hn : rims.length ≤ 30) (hl : l.length ≤ 30) : ∃ r : List Int, Ev (fun k => rim_All.f k rims l) (sorted r) ∧ Good rims.length r ∧ Cl rims l (· ∈ r) ∧ ∀ S, Cl rims l S → ∀ x ∈ r, S x := by
  have h1 : ∀ k, 60 < k → ∃ r, rall.go rims k ([], l) = some r ∧ Good rims.length r ∧ Cl rims l (· ∈ r) ∧ ∀ S, Cl rims l S → ∀ x ∈ r, S x := fun k hk =>
    go_all rims l hn hl _ k [] l rfl (by simp; omega) (by simp; omega) ⟨List.nodup_nil, by simp⟩ (fun x hx => .inl hx) (fun a t ha _ _ _ => by
      rcases ha with ha | ha
      · exact .inl ha
      · cases ha) (by simp)
  obtain ⟨r, e1, e2, e3, e4⟩ := h1 61 (by omega)
  refine ⟨r, ⟨61, fun k hk => ?_⟩, e2, e3, e4⟩
  have e5 : rall.go rims k ([], l) = some r := by
    obtain ⟨n, rfl⟩ := Nat.exists_eq_add_of_le hk
    clear hk
    induction n with
    | zero => exact e1
    | succ n ih => exact rall.go_mono rims _ _ _ ih
  have hle := e2.le
  show rim_All.f k rims l = _
  rw [rim_All.f, if_pos (by omega), e5]
  show (if r.length < _ then _ else _) = _
  rw [if_pos (by omega)]
end Go.Proofs.Ytjibojmbhbaneaa.PRm
