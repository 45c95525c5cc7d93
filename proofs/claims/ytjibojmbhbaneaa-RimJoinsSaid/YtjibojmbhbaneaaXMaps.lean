/- Maps from whole numbers to whole numbers, as lists of pairs: laws for a fresh store and a look-up. -/
import Derived.MapKept
import Derived.ChangeMaps4
import Derived.Maps.OwnOps
import Derived.Below
namespace Go.Proofs.Ytjibojmbhbaneaa.X
open Go.MapKept Go.ChangeMaps Go.RowKit
/-- Block b is a map that holds just these pairs, in the order in which they came in. -/
def IM (w : World) (b : Nat) (kv : List (Int × Int)) : Prop :=
  ∃ es clock, w.heap[b]? = some (.map es clock) ∧ es.toList.map (fun e => (e.key, e.val)) = kv.map (fun p => (Value.int .i64 p.1, Value.int .i64 p.2))
theorem findNow_im (k : Int) : ∀ (l : List MapEntry) (kv : List (Int × Int)) (i : Nat), l.map (fun e => (e.key, e.val)) = kv.map (fun p => (Value.int .i64 p.1, Value.int .i64 p.2)) →
    match kv.find? (fun p => k == p.1) with
    | none => Instr.findNow (.int .i64) (.int .i64 k) l i = some none
    | some p => ∃ j, Instr.findNow (.int .i64) (.int .i64 k) l i = some (some (j, .int .i64 p.2))
  | [], [], i, _ => by simp [Instr.findNow]
  | [], p :: kv, i, h => by simp at h
  | e :: l, [], i, h => by simp at h
  | e :: l, p :: kv, i, h => by
    simp only [List.map_cons, List.cons.injEq, Prod.mk.injEq] at h
    obtain ⟨⟨h1, h2⟩, h3⟩ := h
    have ih := findNow_im k l kv (i + 1) h3
    rw [List.find?_cons]
    cases hk : (k == p.1) with
    | true =>
      simp only
      exact ⟨i, by simp [Instr.findNow, h1, Instr.sameNow, hk, h2]⟩
    | false =>
      simp only
      have e1 : ∀ r, Instr.findNow (.int .i64) (.int .i64 k) (e :: l) i = r ↔ Instr.findNow (.int .i64) (.int .i64 k) l (i + 1) = r := by
        intro r
        simp [Instr.findNow, h1, Instr.sameNow, hk]
      split at ih
      · rename_i hn
        try simp only [hn]
        exact (e1 _).2 ih
      · rename_i q hn
        try simp only [hn]
        obtain ⟨j, hj⟩ := ih
        exact ⟨j, (e1 _).2 hj⟩
variable {P : Program}
theorem run_check_int {kt : TypeId} (hk : P.underlying kt = some (.int .i64)) (w : World) (b : Bool) (k : Int) : (Instr.checkKey b 10000 kt (.int .i64 k)).run P w = .ok () w := by
  unfold Instr.checkKey
  simp only [Sem.run_bind, run_underlying hk, Result.andThen]
  simp
theorem IM.fresh {w : World} {b : Nat} {kv : List (Int × Int)} (h : IM w b kv) {t kt e : TypeId} (ht : P.underlying t = some (.map kt e)) (hk : P.underlying kt = some (.int .i64)) (k v : Int) (hf : kv.find? (fun p => k == p.1) = none) :
    ∃ w', (Instr.mapUpdate t (.map (some b)) (.int .i64 k) (.int .i64 v)).run P w = .ok () w' ∧ IM w' b (kv ++ [(k, v)]) ∧ w.grownBy w' (some b) := by
  obtain ⟨es, clock, hb, hkv⟩ := h
  have h1 := findNow_im k es.toList kv 0 hkv
  rw [hf] at h1
  have h2 := run_findKey (w := w) hk h1
  refine ⟨setBlock w b (.map (es.push { key := .int .i64 k, val := .int .i64 v, born := clock }) (clock + 1)), ?_, ⟨_, _, by unfold setBlock; exact (heap_set hb).1, ?_⟩, ⟨rfl, rfl, rfl, by simp [setBlock], fun i _ hi => ?_⟩⟩
  · simp [Instr.mapUpdate, run_underlying ht, MapKept.run_getObj_map hb, run_check_int hk, h2, MapKept.run_setObj_map _ hb, Result.andThen, setBlock]
  · simp [hkv]
  · unfold setBlock
    exact (heap_set hb).2 i (fun e => hi (by rw [e]))
theorem IM.find {w : World} {b : Nat} {kv : List (Int × Int)} (h : IM w b kv) {t kt e : TypeId} (ht : P.underlying t = some (.map kt e)) (hk : P.underlying kt = some (.int .i64)) (hz : ∀ w, (zeroValue e).run P w = .ok (.int .i64 0) w) (k : Int) :
    (Instr.lookup t (.map (some b)) (.int .i64 k) false).run P w = .ok (.int .i64 (((kv.find? (fun p => k == p.1)).map (·.2)).getD 0)) w := by
  obtain ⟨es, clock, hb, hkv⟩ := h
  have h1 := findNow_im k es.toList kv 0 hkv
  split at h1
  · rename_i hn
    have h2 := run_findKey (w := w) hk h1
    rw [hn]
    simp [Instr.lookup, run_underlying ht, MapKept.run_getObj_map hb, run_check_int hk, h2, Result.andThen, hz]
  · rename_i p hn
    obtain ⟨j, h1⟩ := h1
    have h2 := run_findKey (w := w) hk h1
    rw [hn]
    simp [Instr.lookup, run_underlying ht, MapKept.run_getObj_map hb, run_check_int hk, h2, Result.andThen]
theorem IM.made (w : World) : IM (w.alloc (.map #[] 0)) w.heap.size [] := ⟨#[], 0, (heap_alloc w _).1, rfl⟩
theorem IM.kept {w w' : World} {b : Nat} {kv : List (Int × Int)} (h : IM w b kv) (hh : w'.heap[b]? = w.heap[b]?) : IM w' b kv := by
  obtain ⟨es, clock, hb, hkv⟩ := h
  exact ⟨es, clock, hh.trans hb, hkv⟩
theorem IM.lt {w : World} {b : Nat} {kv : List (Int × Int)} (h : IM w b kv) : b < w.heap.size := by
  obtain ⟨es, clock, hb, hkv⟩ := h
  exact (Array.getElem?_eq_some_iff.1 hb).1
theorem IM.below {w w' : World} {b : Nat} {kv : List (Int × Int)} (h : IM w b kv) (hb : Below w.heap.size w w') : IM w' b kv := h.kept (hb.block b h.lt)
section
variable {ops : Array Oper} {rest : List Oper} {o : Oper} {a : Act} {Q : Exit → Act → World → Prop} {w : World}
theorem wpList_insert_im (hg : o.guard = none) (m x v : Operand) (t : TypeId) (hop : o.op = Op.insert t m x v) {kt e : TypeId} (ht : P.underlying t = some (.map kt e)) (hk : P.underlying kt = some (.int .i64))
    {b : Nat} {kv : List (Int × Int)} (hm : a.eval m = .map (some b)) (him : IM w b kv) (k u : Int) (hx : a.eval x = .int .i64 k) (hv : a.eval v = .int .i64 u) (hf : kv.find? (fun p => k == p.1) = none)
    (hK : ∀ w', IM w' b (kv ++ [(k, u)]) → w.grownBy w' (some b) → wpList P ops Q rest (a.put o.dst undef) w') : wpList P ops Q (o :: rest) a w := by
  refine wpList_plain hg fun K' hK' => ?_
  obtain ⟨w', hrun, r1, r2⟩ := him.fresh ht hk k u hf
  unfold Oper.wp
  simp [execOp, hop, hm, hx, hv, hrun, Result.andThen]
  exact hK' _ _ (hK w' r1 r2)
theorem wpList_lookup_im (hg : o.guard = none) (m x : Operand) (t : TypeId) (hop : o.op = Op.lookup t m x false) {kt e : TypeId} (ht : P.underlying t = some (.map kt e)) (hk : P.underlying kt = some (.int .i64)) (hz : ∀ w, (zeroValue e).run P w = .ok (.int .i64 0) w)
    {b : Nat} {kv : List (Int × Int)} (hm : a.eval m = .map (some b)) (him : IM w b kv) (k : Int) (hx : a.eval x = .int .i64 k)
    (hK : ∀ c : Int, c = ((kv.find? (fun p => k == p.1)).map (·.2)).getD 0 → wpList P ops Q rest (a.put o.dst (.int .i64 c)) w) : wpList P ops Q (o :: rest) a w := by
  refine wpList_plain hg fun K' hK' => ?_
  unfold Oper.wp
  simp [execOp, hop, hm, hx, him.find ht hk hz k, Result.andThen]
  exact hK' _ _ (hK _ rfl)
/-- A map that was made when the heap had B blocks, at block b; what lay below B lies as it lay. -/
def HM (B : Nat) (w0 : World) (b : Nat) (w : World) (kv : List (Int × Int)) : Prop := IM w b kv ∧ B ≤ b ∧ Below B w0 w
theorem HM.made (w : World) : HM w.heap.size w w.heap.size (w.alloc (.map #[] 0)) [] := ⟨IM.made w, Nat.le_refl _, (Below.refl _ _).alloc (Nat.le_refl _) _⟩
theorem HM.im {B b : Nat} {w0 w : World} {kv : List (Int × Int)} (h : HM B w0 b w kv) : IM w b kv := h.1
theorem HM.bel {B b : Nat} {w0 w : World} {kv : List (Int × Int)} (h : HM B w0 b w kv) : Below B w0 w := h.2.2
theorem wpList_insert_hm (hg : o.guard = none) (m x v : Operand) (t : TypeId) (hop : o.op = Op.insert t m x v) {kt e : TypeId} (ht : P.underlying t = some (.map kt e)) (hk : P.underlying kt = some (.int .i64))
    {B b : Nat} {w0 : World} {kv : List (Int × Int)} (hb : B ≤ w.heap.size) (h : HM B w0 b w kv) (hm : a.eval m = .map (some b)) (k u : Int) (hx : a.eval x = .int .i64 k) (hv : a.eval v = .int .i64 u) (hf : kv.find? (fun p => k == p.1) = none)
    (hK : ∀ w', HM B w0 b w' (kv ++ [(k, u)]) → B ≤ w'.heap.size → wpList P ops Q rest (a.put o.dst undef) w') : wpList P ops Q (o :: rest) a w :=
  wpList_insert_im hg m x v t hop ht hk hm h.1 k u hx hv hf fun w' h1 h2 => hK w' ⟨h1, h.2.1, h.2.2.grown h2 hb (fun j e => by cases e; exact h.2.1)⟩ (Nat.le_trans hb h2.size)
end
end Go.Proofs.Ytjibojmbhbaneaa.X
