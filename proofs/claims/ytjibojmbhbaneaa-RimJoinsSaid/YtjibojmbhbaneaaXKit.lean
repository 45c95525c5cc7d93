/- Small laws for walks by hand: a call of a function value; a row of the call's own that is read from some world on. -/
import Derived.Test.YtjibojmbhbaneaaWMore
import Derived.Test.YtjibojmbhbaneaaWNEv
import Derived.Test.YtjibojmbhbaneaaWKept
import Derived.Test.YtjibojmbhbaneaaWApart
import Derived.Test.YtjibojmbhbaneaaWWords
namespace Go.Proofs.Ytjibojmbhbaneaa.X
open Go.RowKit Go.Proofs.YtjibojmbhbaneaaW.PrintWords Go.Proofs.YtjibojmbhbaneaaW.PrintLast Go.Proofs.YtjibojmbhbaneaaW.PrintMore
section
variable {P : Program} {ops : Array Oper} {Q : Exit → Act → World → Prop}
/-- A call of a function value. -/
theorem goesV_ {rest : List Oper} {oi : Oper} {a : Act} {w : World} (N : Option Tmp) (hd : oi.dst = N) (hg : oi.guard = none) {f : FuncId} {fn : Func} {x : Operand} {lb : Array Value} {as : Array Operand} {ts : Array TypeId}
    (hop : oi.op = .call { callee := .value x, args := as, argTypes := ts }) (hx : a.eval x = .func (.func f) #[] lb) (hf : P.funcs[f]? = some fn) (hname : (fn.name == "runtime.NumGoroutine") = false) (hb : fn.body.isSome = true) (args : Array Value)
    (hargs : as.map a.eval ++ lb = args)
    (h : Calls P f args w fun e w' => ∃ v, e = .returned v ∧ wpList P ops Q rest (a.put N v) w') : wpList P ops Q (oi :: rest) a w := by
  refine wpList_plain hg fun K hK => ?_
  have he := enters_ hf hname hb args w
  have hrun : (execOp a.eval oi).run P w = .ok (.enter f args) w := by
    unfold execOp
    simp [hop, resolve, hx, Deferred.ofValue, invoke, hargs, he]
  unfold Oper.wp
  rw [hrun, Oper.upon_enter]
  refine h.mono fun e w'' hh => ?_
  obtain ⟨v, rfl, hk⟩ := hh
  subst hd
  exact hK _ _ hk
end
/-- What is of the call's own from base on is read in each world that keeps what lies from base on. -/
theorem Kd.freeze {α : Type} {d : Kd α} {e : Nat} {w1 : World} {base : Nat} {ok : Nat → Prop} {v : Value} {xs : List α} (h : d.R e w1 base ok v xs) :
    ∃ A c, v = .slice A xs.length c ∧ xs.length ≤ c ∧ ∀ W : World, (∀ k, base ≤ k → k < w1.heap.size → W.heap[k]? = w1.heap[k]?) → d.C W A xs.length xs := by
  obtain ⟨A, c, rfl, hl, _⟩ := Kd.R_reads h
  refine ⟨A, c, rfl, hl, fun W hW => ?_⟩
  have h1 := Kd.R_step (Kd.R_bound h) (w1 := W) (fun k hk _ => hW k hk.2.1 hk.2.2.1)
  obtain ⟨A', c', he, _, hC⟩ := Kd.R_reads h1
  injection he with e1 e2 e3
  subst e1
  exact hC
/-- A row of rows of numbers that is read, each inner row's head known. -/
def Rows2 (k : IntKind) (W : World) (A : Option Addr) (hd : Nat → Option Addr × Nat) (s : List (List Int)) : Prop :=
  ∀ j, j < s.length → ∃ ad, A = some ad ∧ W.cell? (ad.add j) = some (.slice (hd j).1 (s.getD j []).length (hd j).2) ∧ (s.getD j []).length ≤ (hd j).2 ∧ (Kd.int k).C W (hd j).1 (s.getD j []).length (s.getD j [])
theorem at_rows {α : Type} {d : Kd α} {e : Nat} {w : World} {A : Option Addr} {n : Nat} {xs : List (List α)} (h : Kd.C (Kd.slice e d) w A n xs) (j : Nat) (hj : j < n) :
    ∃ ad A0 c0, A = some ad ∧ w.cell? (ad.add j) = some (.slice A0 (xs.getD j []).length c0) ∧ (xs.getD j []).length ≤ c0 ∧ d.C w A0 (xs.getD j []).length (xs.getD j []) := by
  obtain ⟨ad, c, e0, _, hK, hc0⟩ := Kd.C_get h ([] : List α) (j : Int) (by omega) (by omega)
  have hc : ∀ i u, c[i]? = some u → w.cell? (ad.add (j * 1 + i)) = some u := hc0
  obtain ⟨A0, c0, rfl, l0, g0⟩ := hK
  exact ⟨ad, A0, c0, e0, by have hq := hc 0 _ rfl; rwa [Nat.mul_one, Nat.add_zero] at hq, l0, g0⟩
theorem C_len {α : Type} {d : Kd α} {w : World} {A : Option Addr} {n : Nat} {xs : List α} (h : d.C w A n xs) : xs.length = n := h.1
theorem Rows2.of_C {e : Nat} {k : IntKind} {w : World} {A : Option Addr} {n : Nat} {s : List (List Int)} (h : Kd.C (Kd.slice e (Kd.int k)) w A n s) : ∃ hd, Rows2 k w A hd s := by
  have h1 : ∀ j, ∃ p : Option Addr × Nat, j < s.length → ∃ ad, A = some ad ∧ w.cell? (ad.add j) = some (.slice p.1 (s.getD j []).length p.2) ∧ (s.getD j []).length ≤ p.2 ∧ (Kd.int k).C w p.1 (s.getD j []).length (s.getD j []) := by
    intro j
    by_cases hj : j < s.length
    · obtain ⟨ad, A0, c0, e1, e2, e3, e4⟩ := at_rows h j (by rw [← C_len h]; exact hj)
      exact ⟨(A0, c0), fun _ => ⟨ad, e1, e2, e3, e4⟩⟩
    · exact ⟨(none, 0), fun h => absurd h hj⟩
  exact ⟨fun j => Classical.choose (h1 j), fun j hj => Classical.choose_spec (h1 j) hj⟩
theorem Rows2.below {k : IntKind} {w W : World} {A : Option Addr} {hd : Nat → Option Addr × Nat} {s : List (List Int)} (h : Rows2 k w A hd s) (hb : Below w.heap.size w W) : Rows2 k W A hd s := fun j hj => by
  obtain ⟨ad, e1, e2, e3, e4⟩ := h j hj
  exact ⟨ad, e1, pw_cell_below hb e2, e3, Kd.C_below e4 hb⟩
theorem cell_heap {w W : World} {g o : Nat} (h : W.heap[g]? = w.heap[g]?) : W.cell? ⟨g, o, none⟩ = w.cell? ⟨g, o, none⟩ := by
  simp only [World.cell?, h]
/-- A row of rows of the call's own, from some world on. -/
theorem Rows2.freeze {k : IntKind} {e e2 : Nat} {w1 : World} {base : Nat} {ok : Nat → Prop} {v : Value} {s : List (List Int)} (h : (Kd.slice e (Kd.int k)).R e2 w1 base ok v s) :
    ∃ A c hd, v = .slice A s.length c ∧ s.length ≤ c ∧ ∀ W : World, (∀ g, base ≤ g → g < w1.heap.size → W.heap[g]? = w1.heap[g]?) → Rows2 k W A hd s := by
  obtain ⟨A, c, rfl, hl, hC⟩ := Kd.freeze h
  obtain ⟨hd, hR⟩ := Rows2.of_C (hC w1 (fun _ _ _ => rfl))
  refine ⟨A, c, hd, rfl, hl, fun W hW j hj => ?_⟩
  obtain ⟨ad, e1, f2, f3, f4⟩ := hR j hj
  obtain ⟨ad', A0, c0, e1', g2, g3, g4⟩ := at_rows (hC W hW) j hj
  rw [e1] at e1'
  injection e1' with e1'
  subst e1'
  have hb := Kd.R_bound h
  obtain ⟨g, cap, cur, he, _⟩ : ∃ (g : Nat) (cap cur : Nat), A = some ⟨g, 0, none⟩ ∧ True := by
    obtain ⟨inner, ho⟩ := Kd.R_own h
    obtain ⟨g, cap, he, _⟩ := ho.form (by omega)
    injection he with he
    exact ⟨g, cap, 0, he, trivial⟩
  rw [e1] at he
  injection he with he
  subst he
  obtain ⟨_, hb1, hb2, _⟩ := hb.1 g (by rw [e1]; rfl)
  have hc : W.cell? (Addr.add ⟨g, 0, none⟩ j) = w1.cell? (Addr.add ⟨g, 0, none⟩ j) := by rw [add_plain]; exact cell_heap (hW g hb1 hb2)
  rw [hc, f2] at g2
  injection g2 with g2
  injection g2 with q1 q2 q3
  exact ⟨_, e1, by rw [hc]; exact f2, f3, by rw [q1]; exact g4⟩
theorem R_ok_bool {e : Nat} {w : World} {base : Nat} {ok ok' : Nat → Prop} {v : Value} {xs : List Bool} (h : Kd.bool.R e w base ok v xs) (hk : ∀ k, v.ownBlock = some k → ok' k) : Kd.bool.R e w base ok' v xs := ⟨hk, h.2⟩
theorem R_ok_int {k : IntKind} {e : Nat} {w : World} {base : Nat} {ok ok' : Nat → Prop} {v : Value} {xs : List Int} (h : (Kd.int k).R e w base ok v xs) (hk : ∀ k, v.ownBlock = some k → ok' k) : (Kd.int k).R e w base ok' v xs := ⟨hk, h.2⟩
theorem R_form {α : Type} {d : Kd α} {e : Nat} {w : World} {base : Nat} {ok : Nat → Prop} {v : Value} {xs : List α} (h : d.R e w base ok v xs) (h0 : 0 < xs.length) : ∃ g cap, v = .slice (some ⟨g, 0, none⟩) xs.length cap ∧ g < w.heap.size ∧ base ≤ g := by
  obtain ⟨inner, ho⟩ := Kd.R_own h
  obtain ⟨g, cap, he, _⟩ := ho.form h0
  subst he
  exact ⟨g, cap, rfl, own_lt ho g rfl, own_base ho g rfl⟩
/-- These blocks hold this. -/
def Bl (W : World) (l : List (Nat × Obj)) : Prop := ∀ p, p ∈ l → W.heap[p.1]? = some p.2
theorem Bl.nil (W : World) : Bl W [] := fun _ h => absurd h (by simp)
theorem Bl.below {W W1 : World} {l : List (Nat × Obj)} (h : Bl W l) (hb : Below W.heap.size W W1) : Bl W1 l := fun p hp => (hb.block _ (blk_lt (h p hp))).trans (h p hp)
theorem Bl.grown {W W1 : World} {l : List (Nat × Obj)} {row : Option Nat} (h : Bl W l) (hg : W.grownBy W1 row) (hn : ∀ p, p ∈ l → some p.1 ≠ row) : Bl W1 l := fun p hp => (hg.block _ (blk_lt (h p hp)) (hn p hp)).trans (h p hp)
theorem Bl.cons {W : World} {l : List (Nat × Obj)} {g : Nat} {o : Obj} (h : Bl W l) (h1 : W.heap[g]? = some o) : Bl W ((g, o) :: l) := fun p hp => by
  rcases List.mem_cons.1 hp with rfl | hp
  · exact h1
  · exact h p hp
theorem Bl.put {W : World} {l : List (Nat × Obj)} {g : Nat} {cs cs' : Array Value} {t : TypeId} (h : Bl W ((g, .cells cs t (0, 0)) :: l)) (hn : ∀ p, p ∈ l → p.1 ≠ g) (i : Nat) (u : Value) (e : cs.setIfInBounds i u = cs') :
    Bl (W.setCell ⟨g, i, none⟩ u) ((g, .cells cs' t (0, 0)) :: l) := fun p hp => by
  rcases List.mem_cons.1 hp with rfl | hp
  · exact blk_put (h _ (List.mem_cons_self)) i u e
  · exact (Below.heap_setCell W ⟨g, i, none⟩ u p.1 (hn p hp)).trans (h p (List.mem_cons_of_mem _ hp))
theorem Bl.get {W : World} {l : List (Nat × Obj)} (h : Bl W l) {g : Nat} {o : Obj} (hm : (g, o) ∈ l) : W.heap[g]? = some o := h _ hm
/-- What lies outside of T stays. -/
structure KeepO (T : Nat → Prop) (W W1 : World) : Prop where
  os : W1.os = W.os
  tape : W1.tape = W.tape
  output : W1.output = W.output
  size : W.heap.size ≤ W1.heap.size
  block : ∀ i, i < W.heap.size → ¬ T i → W1.heap[i]? = W.heap[i]?
theorem KeepO.of_below {T : Nat → Prop} {W W1 : World} (h : Below W.heap.size W W1) : KeepO T W W1 := ⟨h.os, h.tape, h.output, h.size, fun i hi _ => h.block i hi⟩
theorem KeepO.of_grown {T : Nat → Prop} {W W1 : World} {g : Nat} (h : W.grownBy W1 (some g)) (hg : T g) : KeepO T W W1 := ⟨h.os, h.tape, h.output, h.size, fun i hi hn => h.block i hi (fun e => hn (by injection e with e; rw [e]; exact hg))⟩
theorem KeepO.below {T : Nat → Prop} {B : Nat} {w W W1 : World} (hb : Below B w W) (hB : B ≤ W.heap.size) (h : KeepO T W W1) (hT : ∀ i, T i → B ≤ i) : Below B w W1 :=
  ⟨h.os.trans hb.os, h.tape.trans hb.tape, h.output.trans hb.output, Nat.le_trans hb.size h.size, fun i hi => (h.block i (Nat.lt_of_lt_of_le hi hB) (fun ht => by have := hT i ht; omega)).trans (hb.block i hi)⟩
theorem heap_alloc_push (w : World) (o : Obj) : (w.alloc o).heap = w.heap.push o := rfl
theorem R_form' {α : Type} {d : Kd α} {e : Nat} {w : World} {base B : Nat} {ok : Nat → Prop} {v : Value} {xs : List α} (h : d.R e w base ok v xs) (h0 : ∃ b, v.ownBlock = some b ∧ B ≤ b) : ∃ g cap, v = .slice (some ⟨g, 0, none⟩) xs.length cap ∧ g < w.heap.size ∧ B ≤ g := by
  obtain ⟨inner, ho⟩ := Kd.R_own h
  obtain ⟨b, hb, hB⟩ := h0
  rcases ho.2 with ⟨rfl, _⟩ | ⟨g, cap, cur, rfl, _⟩
  · simp [Value.ownBlock] at hb
  · exact ⟨g, cap, rfl, own_lt ho g rfl, by have : g = b := by simpa [Value.ownBlock] using hb
                                            omega⟩
/-- A row of rows of numbers, of which one inner row grows: what is known ahead of it, and behind it. -/
theorem rows_app {k : IntKind} {e ie : Nat} {W : World} {base g n cap : Nat} {ok : Nat → Prop} {xs : List (List Int)} (h : Kd.S (Kd.slice ie (Kd.int k)) e W base ok (.slice (some ⟨g, 0, none⟩) n cap) xs) (t : Int) (h0 : 0 ≤ t) (h1 : t < n) :
    ∃ (A0 : Option Addr) (c0 : Nat) (oki : Nat → Prop), W.cell? ⟨g, t.toNat, none⟩ = some (.slice A0 (xs.getD t.toNat []).length c0) ∧ W.frozen? ⟨g, t.toNat, none⟩ = false ∧ (∀ q, oki q → ok q ∧ q ≠ g) ∧
      Kd.R (Kd.int k) ie W base (fun q => oki q ∨ (ok q ∧ W.heap.size ≤ q)) (.slice A0 (xs.getD t.toNat []).length c0) (xs.getD t.toNat []) ∧
      ∀ v1 W1 ys, Kd.R (Kd.int k) ie W1 base (fun q => oki q ∨ (ok q ∧ W.heap.size ≤ q)) v1 ys → W.grownBy W1 (Value.slice A0 (xs.getD t.toNat []).length c0).ownBlock →
        W1.cell? ⟨g, t.toNat, none⟩ = some (.slice A0 (xs.getD t.toNat []).length c0) ∧ W1.frozen? ⟨g, t.toNat, none⟩ = false ∧
        Kd.S (Kd.slice ie (Kd.int k)) e (W1.setCell ⟨g, t.toNat, none⟩ v1) base ok (.slice (some ⟨g, 0, none⟩) n cap) (xs.set t.toNat ys) ∧ W1.grownBy (W1.setCell ⟨g, t.toNat, none⟩ v1) (some g) := by
  obtain ⟨oki, c, hcl, hM, hcc, hfr, hoki, hH⟩ := Kd.S_elem h [] t h0 h1
  obtain ⟨ve, rfl, hR⟩ := hM
  obtain ⟨A0, c0, rfl⟩ := Kd.R_slice hR
  have hc := hcc 0 _ rfl
  have hf := hfr 0
  have es : (Kd.slice ie (Kd.int k)).sz = 1 := rfl
  rw [es, Nat.mul_one, Nat.add_zero] at hc hf
  refine ⟨A0, c0, oki, hc, hf, hoki, Kd.R_mono hR (fun _ hq => .inl hq), fun v1 W1 ys hR1 hg => ?_⟩
  have hH1 := Kd.H_grown (Kd.H_widen hH) hg (fun q hq => .inl (hR.1 q hq))
  obtain ⟨A1, c1, rfl⟩ := Kd.R_slice hR1
  obtain ⟨hc1, hf1⟩ := Kd.H_at hH1 h0 h1
  have hc1 := hc1 0 _ rfl
  have hf1 := hf1 0
  rw [es, Nat.mul_one, Nat.add_zero] at hc1 hf1
  have HP := Kd.S_seg0 hH1 h0 h1 (seg := [.slice A1 ys.length c1]) (j := 0) (show 1 ≤ 1 from by decide) (x' := ys) (Kd.M_row hR1) (fun _ hq => hq)
  rw [es, Nat.mul_one, Nat.add_zero] at HP
  exact ⟨hc1, hf1, HP.1, HP.2⟩
theorem R_made {k : IntKind} (W : World) (base e m : Nat) (hb : base ≤ W.heap.size) (hm : m ≤ 9223372036854775807) :
    (Kd.int k).R e (W.alloc (.cells (madeCells #[.int k 0] m) e)) base (fun q => q = W.heap.size) (.slice (some ⟨W.heap.size, 0, none⟩) m m) (List.replicate m 0) :=
  Kd.R_of_own (own_made_of' (enc := Value.int k) (d := (0 : Int)) W base e m hb hm) (fun q hq => by injection hq with hq; exact hq.symm)
theorem blk_of_below {w w1 : World} {B g : Nat} {o : Obj} (hb : Below B w w1) (hg : g < B) (h : w.heap[g]? = some o) : w1.heap[g]? = some o := (hb.block g hg).trans h
end Go.Proofs.Ytjibojmbhbaneaa.X
