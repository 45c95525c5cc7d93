/- Maps from whole numbers to whole numbers, with their entries' stamps: ranging over one. -/
import Derived.Maps.RangeWalk
import Derived.Test.YtjibojmbhbaneaaXMaps
namespace Go.Proofs.Ytjibojmbhbaneaa.X
open Go.MapKept Go.ChangeMaps Go.RowKit
set_option linter.unusedVariables false
set_option linter.unusedSimpArgs false
def IS (w : World) (b : Nat) (kv : List (Int × Int)) : Prop :=
  ∃ es clock, w.heap[b]? = some (.map es clock) ∧ es.toList.map (fun e => (e.key, e.val)) = kv.map (fun p => (Value.int .i64 p.1, Value.int .i64 p.2)) ∧ (∀ x ∈ es.toList, x.born < clock) ∧ (es.toList.map (·.born)).Nodup
theorem IS.im {w : World} {b : Nat} {kv : List (Int × Int)} (h : IS w b kv) : IM w b kv := by
  obtain ⟨es, clock, h1, h2, _⟩ := h
  exact ⟨es, clock, h1, h2⟩
theorem IS.made (w : World) : IS (w.alloc (.map #[] 0)) w.heap.size [] := ⟨#[], 0, (heap_alloc w _).1, rfl, by simp, by simp⟩
theorem IS.kept {w w' : World} {b : Nat} {kv : List (Int × Int)} (h : IS w b kv) (hh : w'.heap[b]? = w.heap[b]?) : IS w' b kv := by
  obtain ⟨es, clock, hb, hkv⟩ := h
  exact ⟨es, clock, hh.trans hb, hkv⟩
theorem IS.lt {w : World} {b : Nat} {kv : List (Int × Int)} (h : IS w b kv) : b < w.heap.size := h.im.lt
variable {P : Program}
theorem IS.fresh {w : World} {b : Nat} {kv : List (Int × Int)} (h : IS w b kv) {t kt e : TypeId} (ht : P.underlying t = some (.map kt e)) (hk : P.underlying kt = some (.int .i64)) (k v : Int) (hf : kv.find? (fun p => k == p.1) = none) :
    ∃ w', (Instr.mapUpdate t (.map (some b)) (.int .i64 k) (.int .i64 v)).run P w = .ok () w' ∧ IS w' b (kv ++ [(k, v)]) ∧ w.grownBy w' (some b) := by
  obtain ⟨es, clock, hb, hkv, hs, hn⟩ := h
  have h1 := findNow_im k es.toList kv 0 hkv
  rw [hf] at h1
  have h2 := run_findKey (w := w) hk h1
  refine ⟨setBlock w b (.map (es.push { key := .int .i64 k, val := .int .i64 v, born := clock }) (clock + 1)), ?_, ⟨_, _, by unfold setBlock; exact (heap_set hb).1, ?_, ?_, ?_⟩, ⟨rfl, rfl, rfl, by simp [setBlock], fun i _ hi => ?_⟩⟩
  · simp [Instr.mapUpdate, run_underlying ht, MapKept.run_getObj_map hb, run_check_int hk, h2, MapKept.run_setObj_map _ hb, Result.andThen, setBlock]
  · simp [hkv]
  · intro x hx
    simp at hx
    rcases hx with hx | rfl
    · have := hs x (by simpa using hx); omega
    · simp
  · simp only [Array.toList_push, List.map_append, List.map_cons, List.map_nil]
    rw [List.nodup_append]
    refine ⟨hn, by simp, fun a ha b' hb' => ?_⟩
    obtain ⟨x, hx, rfl⟩ := List.mem_map.1 ha
    simp at hb'
    have := hs x hx
    omega
  · unfold setBlock
    exact (heap_set hb).2 i (fun e => hi (by rw [e]))
/-- A list in which no f stands twice is one of its members and the others. -/
theorem perm_out {α : Type} (f : α → Nat) : ∀ {l : List α} {x : α}, (l.map f).Nodup → x ∈ l → l.Perm (x :: l.filter fun y => f y != f x)
  | a :: l, x, hn, hx => by
    rw [List.map_cons, List.nodup_cons] at hn
    rcases List.mem_cons.1 hx with rfl | hx'
    · have : (x :: l).filter (fun y => f y != f x) = l := by
        rw [List.filter_cons_of_neg (by simp)]
        exact List.filter_eq_self.2 (fun y hy => by
          have : f y ≠ f x := fun e => hn.1 (List.mem_map.2 ⟨y, hy, e⟩)
          simp [this])
      rw [this]
    · have hne : f a ≠ f x := fun e => hn.1 (List.mem_map.2 ⟨x, hx', e.symm⟩)
      rw [List.filter_cons_of_pos (by simp [hne])]
      exact ((perm_out f hn.2 hx').cons a).trans (List.Perm.swap x a _)
/-- Under way: block b holds the map, block r an iterator over it; ks: the keys that have come. -/
def RG (w : World) (b r : Nat) (ks : List Int) (kv : List (Int × Int)) : Prop :=
  ∃ es clock since seen c0, w.heap[b]? = some (.map es clock) ∧ es.toList.map (fun e => (e.key, e.val)) = kv.map (fun p => (Value.int .i64 p.1, Value.int .i64 p.2)) ∧ (es.toList.map (·.born)).Nodup ∧
    w.heap[r]? = some (.mapIter (some b) since seen c0) ∧ (∀ x ∈ es.toList, x.born < since) ∧ since ≤ c0 ∧ since ≤ clock ∧
    (ks.map (Value.int .i64) ++ (leftOf es seen).toList.map (·.key)).Perm (kv.map fun p => Value.int .i64 p.1)
theorem RG.left_eq {w : World} {b r : Nat} {ks : List Int} {kv : List (Int × Int)} (h : RG w b r ks kv) : w.rangeLeft b r = kv.length - ks.length := by
  obtain ⟨es, clock, since, seen, c0, hb, _, _, hr, _, _, _, hp⟩ := h
  have := hp.length_eq
  simp only [List.length_append, List.length_map, Array.length_toList] at this
  simp only [World.rangeLeft, hb, hr]
  omega
theorem RG.le {w : World} {b r : Nat} {ks : List Int} {kv : List (Int × Int)} (h : RG w b r ks kv) : ks.length ≤ kv.length := by
  obtain ⟨es, clock, since, seen, c0, hb, _, _, hr, _, _, _, hp⟩ := h
  have := hp.length_eq
  simp only [List.length_append, List.length_map] at this
  omega
theorem RG.kept {w w' : World} {b r : Nat} {ks : List Int} {kv : List (Int × Int)} (h : RG w b r ks kv) (hb' : w'.heap[b]? = w.heap[b]?) (hr' : w'.heap[r]? = w.heap[r]?) : RG w' b r ks kv := by
  obtain ⟨es, clock, since, seen, c0, hb, h1, h2, hr, rest⟩ := h
  exact ⟨es, clock, since, seen, c0, hb'.trans hb, h1, h2, hr'.trans hr, rest⟩
theorem RG.lt {w : World} {b r : Nat} {ks : List Int} {kv : List (Int × Int)} (h : RG w b r ks kv) : b < w.heap.size ∧ r < w.heap.size ∧ b ≠ r := by
  obtain ⟨es, clock, since, seen, c0, hb, h1, h2, hr, rest⟩ := h
  refine ⟨(Array.getElem?_eq_some_iff.1 hb).1, (Array.getElem?_eq_some_iff.1 hr).1, fun e => ?_⟩
  rw [e, hr] at hb
  cases hb
theorem RG.start {w : World} {b : Nat} {kv : List (Int × Int)} (h : IS w b kv) {t kt e : TypeId} (ht : P.underlying t = some (.map kt e)) :
    ∃ w', (Instr.range t (.map (some b))).run P w = .ok (.pointer (some ⟨w.heap.size, 0, none⟩)) w' ∧ RG w' b w.heap.size [] kv ∧ w.grownBy w' none := by
  have hlt := h.lt
  obtain ⟨es, clock, hb, hkv, hs, hn⟩ := h
  refine ⟨_, run_range_map w t kt e b es clock ht hb, ⟨es, clock, clock, #[], clock, ((MapKept.heap_alloc w _).2 b hlt).trans hb, hkv, hn, (MapKept.heap_alloc w _).1, hs, Nat.le_refl _, Nat.le_refl _, ?_⟩, World.grownBy_alloc w _ none⟩
  have h1 : (es.toList.map (fun e => (e.key, e.val))).map Prod.fst = (kv.map (fun p => (Value.int .i64 p.1, Value.int .i64 p.2))).map Prod.fst := by rw [hkv]
  simp only [List.map_map] at h1
  have h2 : (leftOf es #[]).toList.map (·.key) = es.toList.map (Prod.fst ∘ fun e => (e.key, e.val)) := by
    simp only [leftOf, Array.toList_filter, Function.comp_def]
    rw [List.filter_eq_self.2 (fun _ _ => by simp)]
  rw [List.map_nil, List.nil_append, h2, h1]
  exact List.Perm.refl _
theorem RG.done {w : World} {b r : Nat} {ks : List Int} {kv : List (Int × Int)} {es : Array MapEntry} {clock since : Nat} {seen : Array Nat} (hp : (ks.map (Value.int .i64) ++ (leftOf es seen).toList.map (·.key)).Perm (kv.map fun p => Value.int .i64 p.1)) (h0 : (leftOf es seen).size = 0) : ks.Perm (kv.map Prod.fst) := by
  have h1 : (leftOf es seen).toList = [] := by rw [← List.length_eq_zero_iff]; simpa using h0
  rw [h1, List.map_nil, List.append_nil] at hp
  have h2 := hp.map (fun v => match v with | Value.int _ n => n | _ => 0)
  simpa [List.map_map, Function.comp_def] using h2
theorem RG.next {w : World} {b r : Nat} {ks : List Int} {kv : List (Int × Int)} (h : RG w b r ks kv) (ty : TypeId) :
    (ks.Perm (kv.map Prod.fst) ∧ (Instr.next (.pointer (some ⟨r, 0, none⟩)) false ty).run P w = .ok (.tuple #[.bool false]) w) ∨
    ∃ (x v : Int) (w' : World), (Instr.next (.pointer (some ⟨r, 0, none⟩)) false ty).run P w = .ok (.tuple #[.bool true, .int .i64 x, .int .i64 v]) w' ∧ RG w' b r (ks ++ [x]) kv ∧ w.grownBy w' (some r) ∧
      (Instr.entry (.pointer (some ⟨r, 0, none⟩))).run P w' = .ok (.tuple #[.int .i64 x, .int .i64 v]) w' := by
  have hl := h.lt
  obtain ⟨es, clock, since, seen, c0, hb, hkv, hn, hr, hold, hsc, hcl, hp⟩ := h
  rcases run_next_at (P := P) w ty r b since c0 seen es clock hr hb hold hsc with ⟨h0, hrun⟩ | ⟨e, he, w1, hw1, hrun⟩
  · exact .inl ⟨RG.done (w := w) (b := b) (r := r) (clock := clock) (since := since) hp h0, hrun⟩
  · refine .inr ?_
    have hes : e ∈ es.toList := by
      simp [leftOf] at he
      simpa using he.1
    have h3 : (e.key, e.val) ∈ kv.map (fun p => (Value.int .i64 p.1, Value.int .i64 p.2)) := by rw [← hkv]; exact List.mem_map.2 ⟨e, hes, rfl⟩
    obtain ⟨p, hpm, hpe⟩ := List.mem_map.1 h3
    injection hpe with e1 e2
    have hr1 : w1.heap[r]? = some (.mapIter (some b) since seen c0) := by rcases hw1 with rfl | rfl <;> exact hr
    have hb1 : w1.heap[b]? = some (.map es clock) := by rcases hw1 with rfl | rfl <;> exact hb
    have hset := heap_set (o' := .mapIter (some b) since (seen.push e.born) clock) hr1
    have hrr : (setBlock w1 r (.mapIter (some b) since (seen.push e.born) clock)).heap[r]? = some (.mapIter (some b) since (seen.push e.born) clock) := by unfold setBlock; exact hset.1
    have hbb : (setBlock w1 r (.mapIter (some b) since (seen.push e.born) clock)).heap[b]? = some (.map es clock) := by unfold setBlock; exact (hset.2 b hl.2.2).trans hb1
    have hg1 : w.grownBy (setBlock w1 r (.mapIter (some b) since (seen.push e.born) clock)) (some r) := by
      refine ⟨?_, ?_, ?_, ?_, fun i hi hne => ?_⟩
      · rcases hw1 with rfl | rfl <;> rfl
      · rcases hw1 with rfl | rfl <;> rfl
      · rcases hw1 with rfl | rfl <;> rfl
      · rcases hw1 with rfl | rfl <;> simp [setBlock]
      · have h4 : i ≠ r := fun e => hne (by rw [e])
        have h5 : w1.heap[i]? = w.heap[i]? := by rcases hw1 with rfl | rfl <;> rfl
        unfold setBlock
        exact (hset.2 i h4).trans h5
    rw [← e1, ← e2] at hrun
    refine ⟨p.1, p.2, _, hrun, ⟨es, clock, since, seen.push e.born, clock, hbb, hkv, hn, hrr, hold, hcl, hcl, ?_⟩, hg1, ?_⟩
    · have h6 : (leftOf es (seen.push e.born)).toList = (leftOf es seen).toList.filter (fun y => y.born != e.born) := by
        simp only [leftOf, Array.toList_filter, List.filter_filter]
        refine List.filter_congr (fun y _ => ?_)
        by_cases h7 : y.born = e.born <;> simp [h7, Bool.and_comm]
      have h8 : ((leftOf es seen).toList.map (·.born)).Nodup := by
        simp only [leftOf, Array.toList_filter]
        exact hn.sublist ((List.filter_sublist).map _)
      have h9 := (perm_out (·.born) h8 he).map (·.key)
      rw [List.map_cons, ← e1] at h9
      rw [h6, List.map_append, List.append_assoc]
      refine (List.Perm.append_left _ ?_).trans hp
      exact h9.symm
    · have := run_entry_at (P := P) (setBlock w1 r (.mapIter (some b) since (seen.push e.born) clock)) r b since seen es clock e hrr hbb hes hn
      rw [this, ← e1, ← e2]
section
variable {ops : Array Oper} {rest : List Oper} {o : Oper} {a : Act} {Q : Exit → Act → World → Prop} {w : World}
theorem wpList_update_is (hg : o.guard = none) (m x v : Operand) (t : TypeId) (hop : o.op = Op.mapUpdate t m x v) {kt e : TypeId} (ht : P.underlying t = some (.map kt e)) (hk : P.underlying kt = some (.int .i64))
    {b : Nat} {kv : List (Int × Int)} (hm : a.eval m = .map (some b)) (him : IS w b kv) (k u : Int) (hx : a.eval x = .int .i64 k) (hv : a.eval v = .int .i64 u) (hf : kv.find? (fun p => k == p.1) = none)
    (hK : ∀ w', IS w' b (kv ++ [(k, u)]) → w.grownBy w' (some b) → wpList P ops Q rest (a.put o.dst undef) w') : wpList P ops Q (o :: rest) a w := by
  refine wpList_plain hg fun K' hK' => ?_
  obtain ⟨w', hrun, r1, r2⟩ := him.fresh ht hk k u hf
  unfold Oper.wp
  simp [execOp, hop, hm, hx, hv, hrun, Result.andThen]
  exact hK' _ _ (hK w' r1 r2)
theorem wpList_makeMap_is (hg : o.guard = none) (t : TypeId) (hop : o.op = Op.makeMap t none)
    (hK : ∀ w', IS w' w.heap.size [] → w.grownBy w' none → wpList P ops Q rest (a.put o.dst (.map (some w.heap.size))) w') : wpList P ops Q (o :: rest) a w := by
  refine wpList_plain hg fun K' hK' => ?_
  have hrun : (Instr.makeMap t none).run P w = .ok (.map (some w.heap.size)) (w.alloc (.map #[] 0)) := rfl
  unfold Oper.wp
  simp [execOp, hop, hrun, Result.andThen]
  exact hK' _ _ (hK _ (IS.made w) (World.grownBy_alloc w _ none))
theorem wpList_range_is (hg : o.guard = none) (m : Operand) (t : TypeId) (hop : o.op = Op.range t m) {kt e : TypeId} (ht : P.underlying t = some (.map kt e))
    {b : Nat} {kv : List (Int × Int)} (hm : a.eval m = .map (some b)) (him : IS w b kv)
    (hK : ∀ w', RG w' b w.heap.size [] kv → w.grownBy w' none → wpList P ops Q rest (a.put o.dst (.pointer (some ⟨w.heap.size, 0, none⟩))) w') : wpList P ops Q (o :: rest) a w := by
  refine wpList_plain hg fun K' hK' => ?_
  obtain ⟨w', hrun, r1, r2⟩ := RG.start him ht
  unfold Oper.wp
  simp [execOp, hop, hm, hrun, Result.andThen]
  exact hK' _ _ (hK w' r1 r2)
theorem wpList_next_rg (hg : o.guard = none) (it : Operand) (hop : o.op = Op.next it false) {b r : Nat} {ks : List Int} {kv : List (Int × Int)}
    (hit : a.eval it = .pointer (some ⟨r, 0, none⟩)) (h : RG w b r ks kv)
    (hDone : ks.Perm (kv.map Prod.fst) → wpList P ops Q rest (a.put o.dst (.tuple #[.bool false])) w)
    (hMore : ∀ (x v : Int) (w' : World), RG w' b r (ks ++ [x]) kv → w.grownBy w' (some r) → (Instr.entry (.pointer (some ⟨r, 0, none⟩))).run P w' = .ok (.tuple #[.int .i64 x, .int .i64 v]) w' → wpList P ops Q rest (a.put o.dst (.tuple #[.bool true, .int .i64 x, .int .i64 v])) w') :
    wpList P ops Q (o :: rest) a w := by
  refine wpList_plain hg fun K' hK' => ?_
  unfold Oper.wp
  rcases h.next (P := P) o.type with ⟨h0, hrun⟩ | ⟨x, v, w', hrun, hrg, hgr, hen⟩
  · simp [execOp, hop, hit, hrun, Result.andThen]
    exact hK' _ _ (hDone h0)
  · simp [execOp, hop, hit, hrun, Result.andThen]
    exact hK' _ _ (hMore x v w' hrg hgr hen)
end
end Go.Proofs.Ytjibojmbhbaneaa.X
