/- Plain law: both programs' edges are one list. -/
import Derived.Test.YtjibojmbhbaneaaPRmx3
import Derived.Test.YtjibojmbhbaneaaPRmx9
import Derived.Test.YtjibojmbhbaneaaXRefRight
import Derived.Test.YtjibojmbhbaneaaXEv
namespace Go.Proofs.Ytjibojmbhbaneaa.PRm
open Go.RowKit Go.Proofs.YtjibojmbhbaneaaW.PrintWords Go.Proofs.YtjibojmbhbaneaaW.PrintLast Go.Proofs.YtjibojmbhbaneaaW.PrintMore Go.Proofs.Ytjibojmbhbaneaa.X
set_option linter.unusedVariables false
set_option linter.unusedSimpArgs false
theorem Ev.of_mono {α : Type} {f : Nat → Option α} {r : α} (hm : ∀ k, LeO (f k) (f (k + 1))) {k : Nat} (h : f k = some r) : Ev f r := ⟨k, fun _ hk => at_rounds hm hk h⟩
/-- With enough rounds f tells something. -/
def Tot {α : Type} (f : Nat → Option α) : Prop := ∃ r, Ev f r
theorem Tot.const {α : Type} (r : α) : Tot (fun _ => some r) := ⟨r, Ev.const r⟩
theorem Tot.of_eq {α : Type} {f g : Nat → Option α} (h : Tot g) (e : ∀ k, f k = g k) : Tot f := by obtain ⟨r, h⟩ := h; exact ⟨r, h.of_eq e⟩
theorem Tot.succ {α : Type} {f : Nat → Option α} (h : Tot (fun k => f (k + 1))) : Tot f := by obtain ⟨r, h⟩ := h; exact ⟨r, h.succ⟩
theorem Tot.bind {α β : Type} {f : Nat → Option α} {g : Nat → α → Option β} (h : Tot f) (h2 : ∀ a, Tot fun k => g k a) : Tot fun k => (f k).bind (g k) := by
  obtain ⟨a, h⟩ := h
  obtain ⟨r, h2⟩ := h2 a
  exact ⟨r, Ev.bind h h2⟩
theorem Tot.ite {α : Type} {c : Prop} [Decidable c] {f g : Nat → Option α} (h1 : c → Tot f) (h2 : ¬ c → Tot g) : Tot fun k => if c then f k else g k := by
  by_cases h : c
  · exact (h1 h).of_eq (fun k => if_pos h)
  · exact (h2 h).of_eq (fun k => if_neg h)
theorem Ev.ite {α : Type} {c : Prop} [Decidable c] {f g : Nat → Option α} {r : α} (h1 : c → Ev f r) (h2 : ¬ c → Ev g r) : Ev (fun k => if c then f k else g k) r := by
  by_cases h : c
  · exact (h1 h).of_eq (fun k => if_pos h)
  · exact (h2 h).of_eq (fun k => if_neg h)
/-! The program's own. -/
theorem min_l0 (x : List Int) (hx : x.length ≤ 9223372036854775807) : ∀ m j v, m = x.length - j → j ≤ x.length → Tot fun k => slices_Min_int_int.l0 k x v (j : Int)
  | 0, j, v, hm, hj => by
    refine Tot.succ (Tot.of_eq (Tot.const v) fun k => ?_)
    rw [slices_Min_int_int.l0, if_neg (by omega)]
  | m + 1, j, v, hm, hj => by
    refine Tot.succ (Tot.of_eq (min_l0 x hx m (j + 1) (mn v (rd x (j : Int))) (by omega) (by omega)) fun k => ?_)
    rw [slices_Min_int_int.l0, if_pos (by omega), if_pos (by omega), wr1 j (by omega)]
theorem min_tot (x : List Int) (hx : x.length ≤ 9223372036854775807) (h0 : 0 < x.length) : Tot fun k => slices_Min_int_int.f k x := by
  refine Tot.of_eq (min_l0 x hx _ 1 (rd x 0) rfl (by omega)) fun k => ?_
  rw [slices_Min_int_int.f, if_neg (by omega), if_pos (by omega)]
  rfl
theorem iright_l0 (a0 a1 a2 a3 a4 a5 a6 a7 : Int) (l : List Int) (hl : l.length ≤ 9223372036854775807) (h : Int) (ys : List (S101)) (hy : ys.length ≤ 9223372036854775807) :
    ∀ m j, m = ys.length - j → j ≤ ys.length → Tot fun k => instr_Right.l0 k h ys (ys.length : Int) (j : Int) a0 a1 a2 a3 a4 a5 a6 a7 l
  | 0, j, hm, hj => by
    have e : j = ys.length := by omega
    subst e
    have hmin : l.length ≠ 0 → Tot fun k => (slices_Min_int_int.f k l).bind fun t => some (decide (t ≥ 0)) := fun h => (min_tot l hl (by omega)).bind (fun a => Tot.const _)
    refine Tot.succ (Tot.of_eq (g := fun k => _) ?_ fun k => by rw [instr_Right.l0, if_neg (by omega)])
    repeat (first
      | exact Tot.const _
      | exact hmin (by omega)
      | refine Tot.ite (fun _ => ?_) (fun _ => ?_))
  | m + 1, j, hm, hj => by
    have ih := iright_l0 a0 a1 a2 a3 a4 a5 a6 a7 l hl h ys hy m (j + 1) (by omega) (by omega)
    refine Tot.succ (Tot.of_eq (g := fun k => _) ?_ fun k => by rw [instr_Right.l0, if_pos (by omega), if_pos (by omega), if_pos (by omega), wr1 j (by omega)])
    repeat (first
      | exact Tot.const _
      | exact ih
      | refine Tot.ite (fun _ => ?_) (fun _ => ?_))
theorem tells_tot (a6 : Int) : ∃ b, instr_tells.f a6 = some b := by
  unfold instr_tells.f
  repeat' split
  all_goals exact ⟨_, rfl⟩
theorem ifields_j0 (h a0 a1 a2 a3 a4 a5 a6 a7 : Int) (l : List Int) : Tot fun k => instr_fields.j0 k h a0 a1 a2 a3 a4 a5 a6 a7 l := by
  have ht := tells_tot a6
  obtain ⟨b, hb⟩ := ht
  refine Tot.succ (Tot.of_eq (g := fun k => _) ?_ fun k => by rw [instr_fields.j0, hb, Option.bind_some])
  repeat (first
    | exact Tot.const _
    | refine Tot.ite (fun _ => ?_) (fun _ => ?_))
theorem ifields_tot (a0 a1 a2 a3 a4 a5 a6 a7 : Int) (l : List Int) (h : Int) : Tot fun k => instr_fields.f k a0 a1 a2 a3 a4 a5 a6 a7 l h := by
  have hj := ifields_j0 h a0 a1 a2 a3 a4 a5 a6 a7 l
  unfold instr_fields.f
  repeat (first
    | exact Tot.const _
    | exact hj
    | refine Tot.ite (fun _ => ?_) (fun _ => ?_))
theorem iright_tot (a0 a1 a2 a3 a4 a5 a6 a7 : Int) (l : List Int) (hl : l.length ≤ 9223372036854775807) : Tot fun k => instr_Right.f k a0 a1 a2 a3 a4 a5 a6 a7 l := by
  have hj : ∀ h b, Tot fun k => instr_Right.j0 k h b a0 a1 a2 a3 a4 a5 a6 a7 l := fun h b => by
    refine Tot.succ (Tot.of_eq (g := fun k => _) ?_ fun k => by rw [instr_Right.j0, Option.bind_some])
    refine Tot.ite (fun _ => Tot.const _) (fun _ => ?_)
    exact iright_l0 a0 a1 a2 a3 a4 a5 a6 a7 l hl h _ (by simp) _ 0 rfl (by simp)
  refine Tot.of_eq (g := fun k => _) ?_ fun k => by rw [instr_Right.f, instr_has.f, Option.bind_some]
  refine Tot.ite (fun _ => hj _ _) (fun _ => ?_)
  exact (ifields_tot a0 a1 a2 a3 a4 a5 a6 a7 l _).bind (fun b => hj _ _)
/-- A jump, and a branch, as they may be. -/
def jumpB (dst a b c n m site : Int) (len : Nat) : Bool := decide (dst = 0 ∧ a = 0 ∧ b = 0 ∧ c = 0 ∧ 0 ≤ n ∧ m = 0 ∧ site = 0 ∧ len = 0)
def branchB (dst a b c n m site : Int) (len : Nat) : Bool := decide (dst = 0 ∧ 0 ≤ a ∧ b = 0 ∧ c = 0 ∧ 0 ≤ n ∧ 0 ≤ m ∧ m ≠ n ∧ site = 0 ∧ len = 0)
theorem bits64 : Go.bits .and .i64 64 16 = 0 ∧ Go.bits .and .i64 64 32 = 0 ∧ Go.bits .and .i64 64 64 = 64 ∧ Go.bits .and .i64 64 128 = 0 ∧ Go.bits .and .i64 64 2048 = 0 ∧ Go.bits .and .i64 64 1 = 0 ∧ Go.bits .and .i64 64 2 = 0 ∧ Go.bits .and .i64 64 4 = 0 ∧ Go.bits .and .i64 64 8 = 0 ∧ Go.bits .and .i64 64 256 = 0 ∧ Go.bits .and .i64 64 512 = 0 ∧ Go.bits .and .i64 64 1024 = 0 := by decide +kernel
theorem bits194 : Go.bits .and .i64 194 16 = 0 ∧ Go.bits .and .i64 194 32 = 0 ∧ Go.bits .and .i64 194 64 = 64 ∧ Go.bits .and .i64 194 128 = 128 ∧ Go.bits .and .i64 194 2048 = 0 ∧ Go.bits .and .i64 194 1 = 0 ∧ Go.bits .and .i64 194 2 = 2 ∧ Go.bits .and .i64 194 4 = 0 ∧ Go.bits .and .i64 194 8 = 0 ∧ Go.bits .and .i64 194 256 = 0 ∧ Go.bits .and .i64 194 512 = 0 ∧ Go.bits .and .i64 194 1024 = 0 := by decide +kernel
/-- One field that an Op has not, one that it has. -/
theorem iright_no {k : Nat} {a0 a1 a2 a3 a4 a5 a6 a7 h bit x : Int} {l : List Int} {ys : List (S101)} {j : Nat} (hj : j < ys.length) (hy : ys.length < 9223372036854775807) (e : ys[j] = ⟨bit, x⟩) (hb : Go.bits .and .i64 h bit = 0) :
    instr_Right.l0 (k + 1) h ys (ys.length : Int) (j : Int) a0 a1 a2 a3 a4 a5 a6 a7 l = if x = 0 then instr_Right.l0 k h ys (ys.length : Int) ((j + 1 : Nat) : Int) a0 a1 a2 a3 a4 a5 a6 a7 l else some false := by
  have hr : rd_T101 ys (j : Int) = ⟨bit, x⟩ := by simp [rd_T101, List.getD, hj, e]
  rw [instr_Right.l0, if_pos (by omega), if_pos (by omega), if_pos (by omega), hr, wr1 j (by omega)]
  simp only
  rw [if_pos hb]
  by_cases h0 : x < 0
  · rw [if_pos h0, if_neg (by omega)]
  · rw [if_neg h0]
theorem iright_yes {k : Nat} {a0 a1 a2 a3 a4 a5 a6 a7 h bit x : Int} {l : List Int} {ys : List (S101)} {j : Nat} (hj : j < ys.length) (hy : ys.length < 9223372036854775807) (e : ys[j] = ⟨bit, x⟩) (hb : Go.bits .and .i64 h bit ≠ 0) :
    instr_Right.l0 (k + 1) h ys (ys.length : Int) (j : Int) a0 a1 a2 a3 a4 a5 a6 a7 l = if 0 ≤ x then instr_Right.l0 k h ys (ys.length : Int) ((j + 1 : Nat) : Int) a0 a1 a2 a3 a4 a5 a6 a7 l else some false := by
  have hr : rd_T101 ys (j : Int) = ⟨bit, x⟩ := by simp [rd_T101, List.getD, hj, e]
  rw [instr_Right.l0, if_pos (by omega), if_pos (by omega), if_pos (by omega), hr, wr1 j (by omega)]
  simp only
  rw [if_neg hb]
  by_cases h0 : x < 0
  · rw [if_pos h0, if_neg (by omega)]
  · rw [if_neg h0, if_pos (by omega)]
theorem iright_end {k : Nat} {a0 a1 a2 a3 a4 a5 a6 a7 h : Int} {l : List Int} {ys : List (S101)} (h0 : a0 ≠ 39) (hb : Go.bits .and .i64 h 512 = 0) (hb2 : Go.bits .and .i64 h 1024 = 0) :
    instr_Right.l0 (k + 1) h ys (ys.length : Int) (ys.length : Int) a0 a1 a2 a3 a4 a5 a6 a7 l = some (decide (l.length = 0)) := by
  rw [instr_Right.l0, if_neg (by omega), if_pos hb, if_pos hb2, if_neg h0]
  by_cases hl : l.length = 0
  · rw [if_neg (by omega), if_pos (by omega)]; simp [hl]
  · rw [if_pos (by omega)]; simp [hl]
theorem iright41 (a1 a2 a3 a4 a5 a6 a7 : Int) (l : List Int) : Ev (fun k => instr_Right.f k 41 a1 a2 a3 a4 a5 a6 a7 l) (jumpB a1 a2 a3 a4 a5 a6 a7 l.length) := by
  obtain ⟨b1, b2, b3, b4, b5, b6, b7, b8, b9, b10, b11, b12⟩ := bits64
  refine ⟨8, fun k hk => ?_⟩
  obtain ⟨k, rfl⟩ : ∃ m, k = m + 1 + 1 + 1 + 1 + 1 + 1 + 1 + 1 := ⟨k - 8, by omega⟩
  show instr_Right.f _ _ _ _ _ _ _ _ _ _ = _
  rw [instr_Right.f, show instr_has.f 41 = some 64 from rfl, Option.bind_some, if_neg (by decide), instr_fields.f, if_pos b1, if_pos b2, b3, if_neg (by decide : ¬ (64 : Int) = 0)]
  have hj : instr_fields.j0 (k + 1 + 1 + 1 + 1 + 1 + 1 + 1 + 1) 64 41 a1 a2 a3 a4 a5 a6 a7 l = some (a6 == 0) := by rw [instr_fields.j0, if_pos b4, if_pos b5]
  rw [hj]
  by_cases h5 : a5 < 0
  · rw [if_pos h5, Option.bind_some, instr_Right.j0, if_pos (by simp)]
    simp [jumpB]; omega
  rw [if_neg h5, Option.bind_some, instr_Right.j0]
  by_cases h6 : a6 = 0
  · rw [if_neg (by simp [h6]), Option.bind_some]
    have e1 := iright_no (k := k + 1 + 1 + 1 + 1 + 1 + 1) (a0 := 41) (a1 := a1) (a2 := a2) (a3 := a3) (a4 := a4) (a5 := a5) (a6 := a6) (a7 := a7) (h := 64) (l := l) (ys := [⟨1, a1⟩, ⟨2, a2⟩, ⟨4, a3⟩, ⟨8, a4⟩, ⟨256, a7⟩]) (j := 0) (by simp) (by simp) rfl b6
    have e2 := iright_no (k := k + 1 + 1 + 1 + 1 + 1) (a0 := 41) (a1 := a1) (a2 := a2) (a3 := a3) (a4 := a4) (a5 := a5) (a6 := a6) (a7 := a7) (h := 64) (l := l) (ys := [⟨1, a1⟩, ⟨2, a2⟩, ⟨4, a3⟩, ⟨8, a4⟩, ⟨256, a7⟩]) (j := 1) (by simp) (by simp) rfl b7
    have e3 := iright_no (k := k + 1 + 1 + 1 + 1) (a0 := 41) (a1 := a1) (a2 := a2) (a3 := a3) (a4 := a4) (a5 := a5) (a6 := a6) (a7 := a7) (h := 64) (l := l) (ys := [⟨1, a1⟩, ⟨2, a2⟩, ⟨4, a3⟩, ⟨8, a4⟩, ⟨256, a7⟩]) (j := 2) (by simp) (by simp) rfl b8
    have e4 := iright_no (k := k + 1 + 1 + 1) (a0 := 41) (a1 := a1) (a2 := a2) (a3 := a3) (a4 := a4) (a5 := a5) (a6 := a6) (a7 := a7) (h := 64) (l := l) (ys := [⟨1, a1⟩, ⟨2, a2⟩, ⟨4, a3⟩, ⟨8, a4⟩, ⟨256, a7⟩]) (j := 3) (by simp) (by simp) rfl b9
    have e5 := iright_no (k := k + 1 + 1) (a0 := 41) (a1 := a1) (a2 := a2) (a3 := a3) (a4 := a4) (a5 := a5) (a6 := a6) (a7 := a7) (h := 64) (l := l) (ys := [⟨1, a1⟩, ⟨2, a2⟩, ⟨4, a3⟩, ⟨8, a4⟩, ⟨256, a7⟩]) (j := 4) (by simp) (by simp) rfl b10
    have e6 := iright_end (k := k + 1) (a0 := 41) (a1 := a1) (a2 := a2) (a3 := a3) (a4 := a4) (a5 := a5) (a6 := a6) (a7 := a7) (h := 64) (l := l) (ys := [⟨1, a1⟩, ⟨2, a2⟩, ⟨4, a3⟩, ⟨8, a4⟩, ⟨256, a7⟩]) (by decide) b11 b12
    refine e1.trans ?_
    rw [e2, e3, e4, e5]
    rw [show ((4 + 1 : Nat) : Int) = (([⟨1, a1⟩, ⟨2, a2⟩, ⟨4, a3⟩, ⟨8, a4⟩, ⟨256, a7⟩] : List (S101)).length : Int) from rfl, e6]
    unfold jumpB
    repeat' split
    all_goals first
      | (congr 1; simp; omega)
      | (congr 1; rw [decide_eq_decide]; constructor <;> intro h <;> first | omega | exact ⟨‹_›, ‹_›, ‹_›, ‹_›, by omega, h6, ‹_›, h⟩)
  · rw [if_pos (by simp [h6])]
    simp [jumpB, h6]
theorem iright42 (a1 a2 a3 a4 a5 a6 a7 : Int) (l : List Int) : Ev (fun k => instr_Right.f k 42 a1 a2 a3 a4 a5 a6 a7 l) (branchB a1 a2 a3 a4 a5 a6 a7 l.length) := by
  obtain ⟨b1, b2, b3, b4, b5, b6, b7, b8, b9, b10, b11, b12⟩ := bits194
  refine ⟨8, fun k hk => ?_⟩
  obtain ⟨k, rfl⟩ : ∃ m, k = m + 1 + 1 + 1 + 1 + 1 + 1 + 1 + 1 := ⟨k - 8, by omega⟩
  show instr_Right.f _ _ _ _ _ _ _ _ _ _ = _
  rw [instr_Right.f, show instr_has.f 42 = some 194 from rfl, Option.bind_some, if_neg (by decide), instr_fields.f, if_pos b1, if_pos b2, b3, if_neg (by decide : ¬ (64 : Int) = 0)]
  have hj : instr_fields.j0 (k + 1 + 1 + 1 + 1 + 1 + 1 + 1 + 1) 194 42 a1 a2 a3 a4 a5 a6 a7 l = some (decide (a6 ≥ 0) && a6 != a5) := by
    rw [instr_fields.j0, b4, if_neg (by decide : ¬ (128 : Int) = 0)]
    by_cases h : a6 ≥ 0
    · rw [if_pos h]; simp [h]
    · rw [if_neg h]; simp [h]
  rw [hj]
  by_cases h5 : a5 < 0
  · rw [if_pos h5, Option.bind_some, instr_Right.j0, if_pos (by simp)]
    simp [branchB]; omega
  rw [if_neg h5, Option.bind_some, instr_Right.j0]
  by_cases h6 : a6 ≥ 0 ∧ a6 ≠ a5
  · rw [if_neg (by simp [h6]), Option.bind_some]
    have e1 := iright_no (k := k + 1 + 1 + 1 + 1 + 1 + 1) (a0 := 42) (a1 := a1) (a2 := a2) (a3 := a3) (a4 := a4) (a5 := a5) (a6 := a6) (a7 := a7) (h := 194) (l := l) (ys := [⟨1, a1⟩, ⟨2, a2⟩, ⟨4, a3⟩, ⟨8, a4⟩, ⟨256, a7⟩]) (j := 0) (by simp) (by simp) rfl b6
    have e2 := iright_yes (k := k + 1 + 1 + 1 + 1 + 1) (a0 := 42) (a1 := a1) (a2 := a2) (a3 := a3) (a4 := a4) (a5 := a5) (a6 := a6) (a7 := a7) (h := 194) (l := l) (ys := [⟨1, a1⟩, ⟨2, a2⟩, ⟨4, a3⟩, ⟨8, a4⟩, ⟨256, a7⟩]) (j := 1) (by simp) (by simp) rfl (by rw [b7]; decide)
    have e3 := iright_no (k := k + 1 + 1 + 1 + 1) (a0 := 42) (a1 := a1) (a2 := a2) (a3 := a3) (a4 := a4) (a5 := a5) (a6 := a6) (a7 := a7) (h := 194) (l := l) (ys := [⟨1, a1⟩, ⟨2, a2⟩, ⟨4, a3⟩, ⟨8, a4⟩, ⟨256, a7⟩]) (j := 2) (by simp) (by simp) rfl b8
    have e4 := iright_no (k := k + 1 + 1 + 1) (a0 := 42) (a1 := a1) (a2 := a2) (a3 := a3) (a4 := a4) (a5 := a5) (a6 := a6) (a7 := a7) (h := 194) (l := l) (ys := [⟨1, a1⟩, ⟨2, a2⟩, ⟨4, a3⟩, ⟨8, a4⟩, ⟨256, a7⟩]) (j := 3) (by simp) (by simp) rfl b9
    have e5 := iright_no (k := k + 1 + 1) (a0 := 42) (a1 := a1) (a2 := a2) (a3 := a3) (a4 := a4) (a5 := a5) (a6 := a6) (a7 := a7) (h := 194) (l := l) (ys := [⟨1, a1⟩, ⟨2, a2⟩, ⟨4, a3⟩, ⟨8, a4⟩, ⟨256, a7⟩]) (j := 4) (by simp) (by simp) rfl b10
    have e6 := iright_end (k := k + 1) (a0 := 42) (a1 := a1) (a2 := a2) (a3 := a3) (a4 := a4) (a5 := a5) (a6 := a6) (a7 := a7) (h := 194) (l := l) (ys := [⟨1, a1⟩, ⟨2, a2⟩, ⟨4, a3⟩, ⟨8, a4⟩, ⟨256, a7⟩]) (by decide) b11 b12
    refine e1.trans ?_
    rw [e2, e3, e4, e5]
    rw [show ((4 + 1 : Nat) : Int) = (([⟨1, a1⟩, ⟨2, a2⟩, ⟨4, a3⟩, ⟨8, a4⟩, ⟨256, a7⟩] : List (S101)).length : Int) from rfl, e6]
    unfold branchB
    repeat' split
    all_goals first
      | (congr 1; simp; omega)
      | (congr 1; rw [decide_eq_decide]; omega)
  · have h6' : (!(decide (a6 ≥ 0) && a6 != a5)) = true := by
      simp only [Bool.not_eq_true', Bool.and_eq_false_iff, decide_eq_false_iff_not, bne_eq_false_iff_eq]
      omega
    rw [if_pos h6']
    have : branchB a1 a2 a3 a4 a5 a6 a7 l.length = false := decide_eq_false (by omega)
    rw [this]
end Go.Proofs.Ytjibojmbhbaneaa.PRm
