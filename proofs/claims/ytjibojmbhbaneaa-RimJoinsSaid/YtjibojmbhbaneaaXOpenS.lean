/- What came in, of whatever kinds: numbers, strings, slices, structs within each other: read in the print's words. -/
import Derived.Deep.Slices
import Derived.ChangeOld
import Derived.SizedLaws
import Derived.Test.YtjibojmbhbaneaaXKit
namespace Go.Proofs.Ytjibojmbhbaneaa.X
open Go.RowKit Go.Deep Go.ChangeShapes Go.WideShapes Go.Proofs.YtjibojmbhbaneaaW.PrintWords Go.Proofs.YtjibojmbhbaneaaW.PrintLast Go.Proofs.YtjibojmbhbaneaaW.PrintMore
set_option linter.unusedVariables false
set_option linter.unusedSimpArgs false
/-- A type that is read as a kind, with what is known of its sizes. -/
def Opens (P : Program) (t : TypeId) {α : Type} (d : Kd α) (G : α → Prop) : Prop :=
  P.cellsOf t = d.sz ∧ ∀ {H : Type} {enc : TypeId × Value → H} {W : World} {base : Nat} {held : Bool} {fuel : Nat} {cs : List Value} {x : DataW H × List MemPlace}, DataW.trod enc P W base (fun _ => true) held fuel t cs = some x → (∀ n, n ∈ x.1.weights P t → n ≤ reachBytes) → ∃ v : α, d.K W v cs ∧ G v
theorem Opens.imp {P : Program} {t : TypeId} {α : Type} {d : Kd α} {G G' : α → Prop} (h : Opens P t d G) (hi : ∀ v, G v → G' v) : Opens P t d G' :=
  ⟨h.1, fun hf hw => by obtain ⟨v, h1, h2⟩ := h.2 hf hw; exact ⟨v, h1, hi v h2⟩⟩
theorem opens_int {P : Program} {t : TypeId} {k : IntKind} (hu : P.underlying t = some (.int k)) (hc : P.cellsOf t = 1) : Opens P t (Kd.int k) (fun n => (Lit.int k n).wf = true) :=
  ⟨hc, fun hf _ => by
    obtain ⟨n, rfl, _, hw⟩ := DataW.trod_int hu hf
    exact ⟨n, rfl, hw⟩⟩
theorem opens_string {P : Program} {t : TypeId} (hu : P.underlying t = some .string) (hc : P.cellsOf t = 1) : Opens P t Kd.string (fun s => s.size ≤ reachBytes) :=
  ⟨hc, fun hf hw => by
    obtain ⟨s, rfl, rfl, _⟩ := DataW.trod_string hu hf
    refine ⟨s, rfl, ?_⟩
    have := hw s.data.toList.length (by simp [DataW.weights])
    simpa using this⟩
theorem weightsAll_mem {H : Type} {P : Program} {e : TypeId} : ∀ {l : List (DataW H)} {d : DataW H}, d ∈ l → ∀ n, n ∈ d.weights P e → n ∈ DataW.weightsAll P e l
  | x :: l, d, hd, n, hn => by
    simp only [DataW.weightsAll, List.mem_append]
    rcases List.mem_cons.1 hd with h | h
    · subst h; exact .inl hn
    · exact .inr (weightsAll_mem h n hn)
theorem opens_slice {P : Program} {t e : TypeId} {α : Type} [Inhabited α] {d : Kd α} {G : α → Prop} (hu : P.underlying t = some (.slice e)) (hc : P.cellsOf t = 1) (he : Opens P e d G) :
    Opens P t (Kd.slice e d) (fun xs => xs.length * P.bytesOf e ≤ reachBytes ∧ xs.length ≤ 9223372036854775807 ∧ ∀ x, x ∈ xs → G x) :=
  ⟨hc, fun {H enc W base held fuel cs x} hf hw => by
    rcases open_slice hu hf with ⟨rfl, rfl⟩ | ⟨a, len, cap0, cap, n, D, Pl, rfl, hb, hl, hm, rfl, rfl, hi⟩
    · exact ⟨[], ⟨none, 0, rfl, Nat.le_refl _, rfl, by simp, fun h => absurd h (by simp)⟩, by simp, by simp, by simp⟩
    · simp only [if_true] at hi hw
      unfold maxLen at hm
      have h1 : ∀ i, i < len → ∃ v : α, ∃ cs', cs'.length = d.sz ∧ d.K W v cs' ∧ G v ∧ ∀ j u, cs'[j]? = some u → W.cell? (a.add (i * d.sz + j)) = some u := fun i hil => by
        obtain ⟨cs', h2, h3⟩ := hi i (by omega)
        obtain ⟨v, v1, v2⟩ := he.2 h3 (fun q hq => hw q (by
          simp only [DataW.weights, hu]
          refine List.mem_cons_of_mem _ (List.mem_append.2 (.inl (weightsAll_mem (d := D i) ?_ q hq)))
          exact List.mem_map.2 ⟨i, List.mem_range.2 hil, rfl⟩))
        obtain ⟨_, c1, c2⟩ := World.cells?_some h2
        rw [he.1] at c1 c2
        refine ⟨v, cs', c1, v1, v2, fun j u hj => ?_⟩
        have hjl : j < d.sz := by rw [← c1]; exact (List.getElem?_eq_some_iff.1 hj).1
        have := c2 j hjl
        rw [Go.Deep.add_add] at this
        rw [this]
        exact hj
      obtain ⟨f, hf'⟩ := choose_lt h1
      have hlen : ((List.range len).map f).length = len := by simp
      refine ⟨(List.range len).map f, ⟨some a, cap, by rw [hlen], by rw [hlen]; exact hl, rfl, by rw [hlen]; omega, fun _ => ⟨a, rfl, fun j p hj => ?_⟩⟩, ?_, by rw [hlen]; omega, fun x hx => ?_⟩
      · have hj1 := (List.getElem?_eq_some_iff.1 hj).1
        rw [hlen] at hj1
        rw [List.getElem?_map, List.getElem?_range hj1] at hj
        obtain rfl := Option.some.inj hj
        obtain ⟨cs', c1, c2, _, c4⟩ := hf' j hj1
        exact ⟨cs', c1, c2, c4⟩
      · have := hw ((((List.range len).map D).length + ((List.range (cap - len)).map fun j => D (len + j)).length) * P.bytesOf e) (by simp only [DataW.weights, hu]; exact List.mem_cons_self)
        simp only [List.length_map, List.length_range] at this
        rw [hlen]
        exact Nat.le_trans (Nat.mul_le_mul_right _ (by omega)) this
      · obtain ⟨i, hi', rfl⟩ := List.mem_map.1 hx
        obtain ⟨_, _, _, g, _⟩ := hf' i (List.mem_range.1 hi')
        exact g⟩
/-- Fields from an offset on. -/
def OpensF (P : Program) (fs : List Field) (o : Nat) {α : Type} (d : Kd α) (G : α → Prop) : Prop :=
  ∀ {H : Type} {enc : TypeId × Value → H} {W : World} {base : Nat} {held : Bool} {fuel : Nat} {cs : List Value} {xs : List (DataW H × List MemPlace)},
    xs.length = fs.length → (∀ (i : Nat) (f : Field), fs[i]? = some f → DataW.trod enc P W base (fun _ => true) held fuel f.type ((cs.drop f.offset).take (P.cellsOf f.type)) = xs[i]?) → (∀ n, n ∈ DataW.weightsEach P (fs.map (·.type)) (xs.map (·.1)) → n ≤ reachBytes) → ∃ v : α, d.K W v ((cs.drop o).take d.sz) ∧ G v
theorem opensF_last {P : Program} {f : Field} {o : Nat} {α : Type} {d : Kd α} {G : α → Prop} (ho : f.offset = o) (h : Opens P f.type d G) : OpensF P [f] o d G := fun {H enc W base held fuel cs xs} hl hx hw => by
  obtain ⟨x, rfl⟩ : ∃ x, xs = [x] := by
    match xs, hl with
    | [x], _ => exact ⟨x, rfl⟩
  have h0 := hx 0 f rfl
  rw [ho, h.1] at h0
  exact h.2 h0 (fun n hn => hw n (by simp only [List.map_cons, List.map_nil, DataW.weightsEach, List.append_nil]; exact hn))
theorem opensF_cons {P : Program} {f : Field} {fs : List Field} {o : Nat} {α β : Type} {d : Kd α} {d' : Kd β} {G : α → Prop} {G' : β → Prop} (ho : f.offset = o) (h : Opens P f.type d G) (h' : OpensF P fs (o + d.sz) d' G') : OpensF P (f :: fs) o (Kd.pair d d') (fun v => G v.1 ∧ G' v.2) := fun {H enc W base held fuel cs xs} hl hx hw => by
  obtain ⟨x, xs, rfl⟩ : ∃ x xs', xs = x :: xs' := by
    match xs, hl with
    | x :: xs, _ => exact ⟨x, xs, rfl⟩
  have h0 := hx 0 f rfl
  rw [ho, h.1] at h0
  obtain ⟨v, v1, v2⟩ := h.2 h0 (fun n hn => hw n (by simp only [List.map_cons, DataW.weightsEach, List.mem_append]; exact .inl hn))
  obtain ⟨u, u1, u2⟩ := h' (xs := xs) (by simpa using hl) (fun i g hg => hx (i + 1) g hg) (fun n hn => hw n (by simp only [List.map_cons, DataW.weightsEach, List.mem_append]; exact .inr hn))
  refine ⟨(v, u), ⟨(cs.drop o).take d.sz, (cs.drop (o + d.sz)).take d'.sz, ?_, v1, u1⟩, v2, u2⟩
  show (cs.drop o).take (d.sz + d'.sz) = _
  rw [List.take_add, List.drop_drop]
theorem opens_struct {P : Program} {t : TypeId} {fs : Array Field} {α β : Type} {d : Kd α} {G : α → Prop} (f : β → α) (g : α → β) (hfg : ∀ v, f (g v) = v) (hu : P.underlying t = some (.struct fs)) (hc : P.cellsOf t = d.sz) (h : OpensF P fs.toList 0 d G) : Opens P t (Kd.iso d f) (fun x => G (f x)) :=
  ⟨hc, fun {H enc W base held fuel cs x} hf hw => by
    obtain ⟨xs, n, _, rfl, hl, hxl, hx⟩ := DataW.trod_struct hu hf
    obtain ⟨v, v1, v2⟩ := h (xs := xs) (fuel := n) (cs := cs) (by simpa using hxl) (fun i q hq => hx i q (by rw [← Array.getElem?_toList]; exact hq)) (fun m hm => hw m (by simp only [DataW.weights, hu]; exact hm))
    refine ⟨g v, ?_, by show G (f (g v)); rw [hfg]; exact v2⟩
    show d.K W (f (g v)) cs
    rw [hfg]
    rw [List.drop_zero, List.take_of_length_le (by rw [hl, hc]; exact Nat.le_refl _)] at v1
    exact v1⟩
/-- A struct that came in by value. -/
theorem opens_agg {P : Program} {t : TypeId} {fs : Array Field} {α : Type} {d : Kd α} {G : α → Prop} (ho : Opens P t d G) (hu : P.underlying t = some (.struct fs)) {H : Type} {enc : TypeId × Value → H} {W : World} {base b0 : Nat} {held : Bool} {r : Reach} {v : Value} {D : DataW H} {ps : List MemPlace}
    (hv : Value.okWide P W r b0 t v) (h : DataW.Trod enc P W base (fun _ => true) held t v D ps) (hw : ∀ n, n ∈ D.weights P t → n ≤ reachBytes) : ∃ (x : α) (cs : Array Value), v = .agg cs ∧ d.K W x cs.toList ∧ G x := by
  obtain ⟨cs, rfl, _⟩ := okWide_struct hu hv
  obtain ⟨fuel, hf⟩ := h
  obtain ⟨x, h1, h2⟩ := ho.2 hf hw
  exact ⟨x, cs, rfl, h1, h2⟩
end Go.Proofs.Ytjibojmbhbaneaa.X
