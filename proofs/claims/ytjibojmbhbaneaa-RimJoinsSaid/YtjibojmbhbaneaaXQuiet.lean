/- A region that draws its order, walked over a list of what its slots hold: no frame is written out, no case is walked twice. -/
import Derived.Test.YtjibojmbhbaneaaPRmx0
import Derived.Test.YtjibojmbhbaneaaXKit
import Derived.Deep.QuietTactic
import Derived.BigQuiet
namespace Go.Proofs.Ytjibojmbhbaneaa.X
open Go.RowKit Go.Proofs.YtjibojmbhbaneaaW.PrintWords Go.Proofs.YtjibojmbhbaneaaW.PrintLast Go.Proofs.YtjibojmbhbaneaaW.PrintMore
set_option linter.unusedVariables false
def lk : List (Nat × Value) → Nat → Option Value
  | [], _ => none
  | (m, v) :: L, n => if m = n then some v else lk L n
/-- What some slots hold. -/
structure Fr (a : Act) (N : Nat) (L : List (Nat × Value)) : Prop where
  size : a.tmps.size = N
  get : ∀ n v, lk L n = some v → n < N ∧ a.tmps.getD n undef = v
theorem Fr.nil {a : Act} {N : Nat} (h : a.tmps.size = N) : Fr a N [] := ⟨h, fun _ _ h => by simp [lk] at h⟩
theorem Fr.cons {a : Act} {N : Nat} {L : List (Nat × Value)} (h : Fr a N L) {n : Nat} {v : Value} (hn : n < N) (hv : a.tmps.getD n undef = v) : Fr a N ((n, v) :: L) :=
  ⟨h.size, fun m u hu => by
    unfold lk at hu
    split at hu
    · rename_i e
      subst e
      injection hu with hu
      subst hu
      exact ⟨hn, hv⟩
    · exact h.get m u hu⟩
theorem Fr.put {a : Act} {N : Nat} {L : List (Nat × Value)} (h : Fr a N L) (n : Nat) (v : Value) (hn : n < N) : Fr (a.put (some n) v) N ((n, v) :: L) :=
  ⟨by simp [Act.put, h.size], fun m u hu => by
    unfold lk at hu
    split at hu
    · rename_i e
      subst e
      injection hu with hu
      subst hu
      have := h.size
      exact ⟨hn, by simp [Act.put, Array.getD, this, hn]⟩
    · rename_i e
      obtain ⟨h1, h2⟩ := h.get m u hu
      have := h.size
      refine ⟨h1, ?_⟩
      rw [← h2]
      simp [Act.put, Array.getD, this, h1, e]⟩
def puts (a : Act) : List (Nat × Value) → Act
  | [] => a
  | (n, v) :: M => (puts a M).put (some n) v
def okN (N : Nat) : List (Nat × Value) → Bool
  | [] => true
  | (n, _) :: M => Nat.blt n N && okN N M
theorem Fr.ats {a : Act} {N : Nat} {L : List (Nat × Value)} (h : Fr a N L) : ∀ M, okN N M = true → Fr (puts a M) N (M ++ L)
  | [], _ => h
  | (n, v) :: M, hM => by
    simp only [okN, Bool.and_eq_true, Nat.blt_eq] at hM
    exact (Fr.ats h M hM.2).put n v hM.1
def ev (L : List (Nat × Value)) : Operand → Option Value
  | .tmp n => lk L n
  | .const v => some v
  | .func f => some (.func (.func f) #[] #[])
  | _ => none
theorem Fr.evs {a : Act} {N : Nat} {L : List (Nat × Value)} (h : Fr a N L) {x : Operand} {v : Value} (e : ev L x = some v) : a.eval x = v := by
  cases x with
  | tmp n => exact (h.get n v e).2
  | const u => injection e
  | func f => injection e
  | global g => simp [X.ev] at e
/-- What is left of a region, its frame told by what was put. -/
structure WQ (P : Program) (ops : Array Oper) (C : World → Prop) (Q : Act → Prop) (l : List Oper) (a : Act) (M : List (Nat × Value)) : Prop where
  out : wpQuiet P ops C Q l (puts a M)
section
variable {P : Program} {ops : Array Oper} {C : World → Prop} {Q : Act → Prop} {a : Act} {o : Oper} {rest : List Oper} {N : Nat} {L M : List (Nat × Value)}
theorem Fr.yv (h : Fr a N L) (hM : okN N M = true) {j d : Nat} {v : Value} (hd : (ops[j]?).bind (·.dst) = some d) (hv : lk (M ++ L) d = some v) : yielded ops (puts a M).tmps j = match v with | .bool b => some b | _ => none := by
  obtain ⟨h1, h2⟩ := (Fr.ats h M hM).get d v hv
  have hs := (Fr.ats h M hM).size
  have : (puts a M).tmps[d]? = some v := by
    rw [Array.getElem?_eq_getElem (by omega), ← h2]
    simp [Array.getD, hs, h1]
  unfold yielded
  rw [hd]
  simp only [Option.bind_some, this]
  cases v <;> rfl
def yB : Value → Option Bool
  | .bool b => some b
  | _ => none
theorem Fr.yB (h : Fr a N L) (hM : okN N M = true) {j d : Nat} {v : Value} (hd : (ops[j]?).bind (·.dst) = some d) (hv : lk (M ++ L) d = some v) : yielded ops (puts a M).tmps j = X.yB v := by
  rw [h.yv hM hd hv]
  cases v <;> rfl
/-- Passed over. -/
theorem q_skip (h : Fr a N L) (hM : okN N M = true) {n : Nat} (ho : o.dst = some n) {j d : Nat} {b : Bool} {v : Value} (hg : o.guard = some (j, b)) (hd : (ops[j]?).bind (·.dst) = some d) (hv : lk (M ++ L) d = some v) (hb : (X.yB v == some b) = false)
    (hk : WQ P ops C Q rest a ((n, undef) :: M)) : WQ P ops C Q (o :: rest) a M :=
  ⟨BigFrame.wpQuiet_skip (by unfold Region.wanted; rw [hg]; simp only; rw [h.yB hM hd hv]; exact hb) (by rw [ho]; exact hk.out)⟩
/-- Wanted: no guard, or a guard that holds. -/
def gOk (ops : Array Oper) (L : List (Nat × Value)) (o : Oper) : Bool :=
  match o.guard with
  | none => true
  | some (j, b) => match (ops[j]?).bind (·.dst) with
    | some d => match lk L d with
      | some v => X.yB v == some b
      | none => false
    | none => false
theorem wanted_of (h : Fr a N L) (hM : okN N M = true) (hg : gOk ops (M ++ L) o = true) : Region.wanted o (yielded ops (puts a M).tmps) = true := by
  unfold Region.wanted
  unfold gOk at hg
  split at hg
  · rename_i e; rw [e]
  · rename_i j b e
    rw [e]
    simp only
    split at hg
    · rename_i d e2
      split at hg
      · rename_i v e3
        rw [h.yB hM e2 e3]
        exact hg
      · exact absurd hg (by simp)
    · exact absurd hg (by simp)
theorem q_val (h : Fr a N L) (hM : okN N M = true) {n : Nat} (ho : o.dst = some n) (hg : gOk ops (M ++ L) o = true) {v : Value} (hr : ∀ W, C W → (execOp (puts a M).eval o).run P W = .ok (.value v) W)
    (hk : WQ P ops C Q rest a ((n, v) :: M)) : WQ P ops C Q (o :: rest) a M :=
  ⟨BigFrame.wpQuiet_want (wanted_of h hM hg) fun K hK => ⟨v, fun W hW => by unfold Oper.quietAt; rw [hr W hW]; exact ⟨rfl, rfl⟩, by rw [ho]; exact hK _ hk.out⟩⟩
theorem q_move (h : Fr a N L) (hM : okN N M = true) {n : Nat} (ho : o.dst = some n) (hg : gOk ops (M ++ L) o = true) {x : Operand} {v : Value} (hop : o.op = .move x) (hx : ev (M ++ L) x = some v)
    (hk : WQ P ops C Q rest a ((n, v) :: M)) : WQ P ops C Q (o :: rest) a M :=
  q_val h hM ho hg (fun W _ => by have e := (Fr.ats h M hM).evs hx; unfold execOp; rw [hop]; simp only [e]; rfl) hk
theorem q_pickT (h : Fr a N L) (hM : okN N M = true) {n : Nat} (ho : o.dst = some n) (hg : gOk ops (M ++ L) o = true) {c x y : Operand} {v : Value} (hop : o.op = .pick c x y) (hc : ev (M ++ L) c = some (.bool true)) (hx : ev (M ++ L) x = some v)
    (hk : WQ P ops C Q rest a ((n, v) :: M)) : WQ P ops C Q (o :: rest) a M :=
  q_val h hM ho hg (fun W _ => by have e := (Fr.ats h M hM).evs hx; have e2 := (Fr.ats h M hM).evs hc; unfold execOp; rw [hop]; simp only [e, e2]; rfl) hk
theorem q_pickF (h : Fr a N L) (hM : okN N M = true) {n : Nat} (ho : o.dst = some n) (hg : gOk ops (M ++ L) o = true) {c x y : Operand} {v : Value} (hop : o.op = .pick c x y) (hc : ev (M ++ L) c = some (.bool false)) (hx : ev (M ++ L) y = some v)
    (hk : WQ P ops C Q rest a ((n, v) :: M)) : WQ P ops C Q (o :: rest) a M :=
  q_val h hM ho hg (fun W _ => by have e := (Fr.ats h M hM).evs hx; have e2 := (Fr.ats h M hM).evs hc; unfold execOp; rw [hop]; simp only [e, e2]; rfl) hk
theorem q_notnot (h : Fr a N L) (hM : okN N M = true) {n : Nat} (ho : o.dst = some n) (hg : gOk ops (M ++ L) o = true) {t : TypeId} {x : Operand} {y : Bool} (hop : o.op = .unOp .not t x) (hx : ev (M ++ L) x = some (.bool (!y)))
    (hk : WQ P ops C Q rest a ((n, .bool y) :: M)) : WQ P ops C Q (o :: rest) a M :=
  q_val h hM ho hg (fun W _ => by have e := (Fr.ats h M hM).evs hx; unfold execOp; rw [hop]; simp only [e]; go_simp) hk
theorem q_call (h : Fr a N L) (hM : okN N M = true) {n : Nat} (ho : o.dst = some n) (hg : gOk ops (M ++ L) o = true) {f : FuncId} {fn : Func} {xs : Array Operand} {ts : Array TypeId} {v : Value} (hf : P.funcs[f]? = some fn) (hname : (fn.name == "runtime.NumGoroutine") = false) (hb : fn.body.isSome = true) (args : List Value)
    (hop : o.op = .call { callee := .value (.func f), args := xs, argTypes := ts }) (hx : xs.toList.map (ev (M ++ L)) = args.map some) (hc : ∀ W, C W → Calls P f args.toArray W fun e w' => e = .returned v ∧ C w')
    (hk : WQ P ops C Q rest a ((n, v) :: M)) : WQ P ops C Q (o :: rest) a M :=
  ⟨BigFrame.wpQuiet_want (wanted_of h hM hg) fun K hK => ⟨v, fun W hW => by
    have hargs : xs.map (puts a M).eval = args.toArray := by
      have hF := Fr.ats h M hM
      have : ∀ (l : List Operand) (r : List Value), l.map (ev (M ++ L)) = r.map some → l.map (puts a M).eval = r := by
        intro l
        induction l with
        | nil => intro r hr; cases r with
          | nil => rfl
          | cons y ys => simp at hr
        | cons x xs ih => intro r hr; cases r with
          | nil => simp at hr
          | cons y ys =>
            simp only [List.map_cons, List.cons.injEq] at hr ⊢
            exact ⟨hF.evs hr.1, ih ys hr.2⟩
      have h2 := this xs.toList args hx
      apply Array.toList_inj.1
      simpa using h2
    have he := enters_ hf hname hb args.toArray W
    have hrun : (execOp (puts a M).eval o).run P W = .ok (.enter f args.toArray) W := by
      unfold execOp
      simp [hop, resolve, Act.eval, Deferred.ofValue, invoke, he]
      rw [show xs.map (fun x => (puts a M).eval x) = args.toArray from hargs]
      exact he
    unfold Oper.quietAt
    rw [hrun]
    exact ⟨rfl, hc W hW⟩, by rw [ho]; exact hK _ hk.out⟩⟩
theorem q_eq (h : Fr a N L) (hM : okN N M = true) {n : Nat} (ho : o.dst = some n) (hg : gOk ops (M ++ L) o = true) {x y : Operand} {s t : TypeId} {i j : Int} (hop : o.op = .binOp .eql s x y t) (hx : ev (M ++ L) x = some (.int .i64 i)) (hy : ev (M ++ L) y = some (.int .i64 j))
    (hk : WQ P ops C Q rest a ((n, .bool (i == j)) :: M)) : WQ P ops C Q (o :: rest) a M :=
  q_val h hM ho hg (fun W _ => by have e1 := (Fr.ats h M hM).evs hx; have e2 := (Fr.ats h M hM).evs hy; unfold execOp; rw [hop]; simp only [e1, e2]; go_simp) hk
theorem q_ne (h : Fr a N L) (hM : okN N M = true) {n : Nat} (ho : o.dst = some n) (hg : gOk ops (M ++ L) o = true) {x y : Operand} {s t : TypeId} {i j : Int} (hop : o.op = .binOp .neq s x y t) (hx : ev (M ++ L) x = some (.int .i64 i)) (hy : ev (M ++ L) y = some (.int .i64 j))
    (hk : WQ P ops C Q rest a ((n, .bool (i != j)) :: M)) : WQ P ops C Q (o :: rest) a M :=
  q_val h hM ho hg (fun W _ => by have e1 := (Fr.ats h M hM).evs hx; have e2 := (Fr.ats h M hM).evs hy; unfold execOp; rw [hop]; simp only [e1, e2]; go_simp) hk
theorem q_eqE (h : Fr a N L) (hM : okN N M = true) {n : Nat} (ho : o.dst = some n) (hg : gOk ops (M ++ L) o = true) {x y : Operand} {s t : TypeId} {i j : Int} {b : Bool} (hop : o.op = .binOp .eql s x y t) (hx : ev (M ++ L) x = some (.int .i64 i)) (hy : ev (M ++ L) y = some (.int .i64 j)) (hb : (i == j) = b)
    (hk : WQ P ops C Q rest a ((n, .bool b) :: M)) : WQ P ops C Q (o :: rest) a M :=
  q_eq h hM ho hg hop hx hy (by rw [hb]; exact hk)
theorem q_neE (h : Fr a N L) (hM : okN N M = true) {n : Nat} (ho : o.dst = some n) (hg : gOk ops (M ++ L) o = true) {x y : Operand} {s t : TypeId} {i j : Int} {b : Bool} (hop : o.op = .binOp .neq s x y t) (hx : ev (M ++ L) x = some (.int .i64 i)) (hy : ev (M ++ L) y = some (.int .i64 j)) (hb : (i != j) = b)
    (hk : WQ P ops C Q rest a ((n, .bool b) :: M)) : WQ P ops C Q (o :: rest) a M :=
  q_ne h hM ho hg hop hx hy (by rw [hb]; exact hk)
theorem q_nil (h : Q (puts a M)) : WQ P ops C Q [] a M := ⟨h⟩
/-- A region that draws its order. -/
theorem q_region {C : World → Prop} {id : Nat} {Q : Exit → Act → World → Prop} {a : Act} {w : World} {l : List Oper} (hm : P.follows .mixedOrders = true) (hB : Region.lexB .any l.toArray = true) (hC : C w.drew)
    (h : WQ P l.toArray C (fun a' => ∀ w', C w' → Q .normal a' w') l a []) : (Code.region id l.toArray true).wp P Q a w := wp_region_quiet hm hB hC (by rw [List.toList_toArray]; exact h.out)
end
section
variable {ops : Array Oper} {C : World → Prop} {Q : Act → Prop} {a : Act} {o : Oper} {rest : List Oper} {N : Nat} {L M : List (Nat × Value)}
theorem q_load (h : Fr a N L) (hM : okN N M = true) {n : Nat} (ho : o.dst = some n) (hg : gOk ops (M ++ L) o = true) {x : Operand} {p : Addr} {v : Value} (hop : o.op = .load 3 x) (hx : ev (M ++ L) x = some (.pointer (some p))) (hp : p.spot = none) (hc : ∀ W, C W → W.cell? p = some v)
    (hk : WQ Try.prog ops C Q rest a ((n, v) :: M)) : WQ Try.prog ops C Q (o :: rest) a M :=
  q_val h hM ho hg (fun W hW => by
    have e := (Fr.ats h M hM).evs hx
    have hc := hc W hW
    have hu := Try.underlying3
    obtain ⟨b, f, vw⟩ := p
    simp only at hp
    subst hp
    unfold execOp
    rw [hop]
    simp only [e]
    go_simp) hk
/-- A load of a cell of a block that each world of the class holds. -/
theorem q_loadc (h : Fr a N L) (hM : okN N M = true) {n : Nat} (ho : o.dst = some n) (hg : gOk ops (M ++ L) o = true) {x : Operand} {g : Nat} {tab : List (Nat × Value)} (hcell : ∀ (i : Nat) (v : Value), lk tab i = some v → ∀ W, C W → W.cell? ⟨g, i, none⟩ = some v) {i : Nat} {v : Value} (hop : o.op = .load 3 x) (hx : ev (M ++ L) x = some (.pointer (some ⟨g, i, none⟩))) (hi : lk tab i = some v)
    (hk : WQ Try.prog ops C Q rest a ((n, v) :: M)) : WQ Try.prog ops C Q (o :: rest) a M :=
  q_load h hM ho hg hop hx rfl (hcell i v hi) hk
theorem q_field (h : Fr a N L) (hM : okN N M = true) {n : Nat} (ho : o.dst = some n) (hg : gOk ops (M ++ L) o = true) {x : Operand} {g i : Nat} (hop : o.op = .fieldAddr 50 x i) (hx : ev (M ++ L) x = some (.pointer (some ⟨g, 0, none⟩))) (hi : Nat.blt i 9 = true)
    (hk : WQ Try.prog ops C Q rest a ((n, .pointer (some ⟨g, i, none⟩)) :: M)) : WQ Try.prog ops C Q (o :: rest) a M :=
  q_val h hM ho hg (fun W hW => by
    have e := (Fr.ats h M hM).evs hx
    have hu := Try.underlying50
    rw [Nat.blt_eq] at hi
    unfold execOp
    rw [hop]
    simp only [e]
    obtain rfl | rfl | rfl | rfl | rfl | rfl | rfl | rfl | rfl : i = 0 ∨ i = 1 ∨ i = 2 ∨ i = 3 ∨ i = 4 ∨ i = 5 ∨ i = 6 ∨ i = 7 ∨ i = 8 := by omega
    all_goals go_simp) hk
end
end Go.Proofs.Ytjibojmbhbaneaa.X
