/- graph.through: blocks are gone through from the first one on, each is told as it is left. -/
import Derived.Test.YtjibojmbhbaneaaPRmx0
import Derived.Test.YtjibojmbhbaneaaXKit
import Derived.Laws.EntriesVeiled
namespace Go.Proofs.Ytjibojmbhbaneaa.PRm
open Go.RowKit Go.Proofs.YtjibojmbhbaneaaW.PrintWords Go.Proofs.YtjibojmbhbaneaaW.PrintLast Go.Proofs.YtjibojmbhbaneaaW.PrintMore Go.Proofs.Ytjibojmbhbaneaa.X
set_option linter.unusedVariables false
/-- From block x on: who was seen, and who was left, in order. -/
def thr.dfs (s : List (List Int)) (but : Int) : Nat → Int → List Bool × List Int → Option (List Bool × List Int)
  | 0, _, _ => none
  | n + 1, x, st =>
    if x = but then some st
    else if 0 ≤ x ∧ x < (st.1.length : Int) ∧ x < (s.length : Int) then
      if rdOf false st.1 x = true then some st
      else (((s.getD x.toNat []).foldlM (fun st t => thr.dfs s but n t st) (st.1.set x.toNat true, st.2))).bind fun st => if st.2.length < 17592186044415 then some (st.1, st.2 ++ [x]) else none
    else none
structure thr.Env (g0 g1 g2 g3 g4 g5 : Nat) (base : Nat) (As : Option Addr) (cs cap : Nat) (s : List (List Int)) (but : Int) (fL : Value) (W : World) (seen : List Bool) : Prop where
  b0 : W.heap[g0]? = some (.cells #[.slice As s.length cs] 22 (0, 0))
  b1 : W.heap[g1]? = some (.cells #[.int .i64 but] 3 (0, 0))
  b2 : W.heap[g2]? = some (.cells #[fL] 74 (0, 0))
  row : Kd.R Kd.bool 4 W base (fun k => k = g3) (.slice (some ⟨g3, 0, none⟩) s.length cap) seen
  b4 : W.heap[g4]? = some (.cells #[.slice (some ⟨g3, 0, none⟩) s.length cap] 32 (0, 0))
  b5 : W.heap[g5]? = some (.cells #[.func (.func 94) #[] #[.pointer (some ⟨g1, 0, none⟩), .pointer (some ⟨g4, 0, none⟩), .pointer (some ⟨g0, 0, none⟩), .pointer (some ⟨g5, 0, none⟩), .pointer (some ⟨g2, 0, none⟩)]] 74 (0, 0))
section
variable {g0 g1 g2 g3 g4 g5 base cs cap : Nat} {As : Option Addr} {s : List (List Int)} {but : Int} {fL : Value}
theorem thr.Env.len {W : World} {seen : List Bool} (h : thr.Env g0 g1 g2 g3 g4 g5 base As cs cap s but fL W seen) : seen.length = s.length := (Kd.R_reads' h.row).1.symm
theorem thr.Env.lts {W : World} {seen : List Bool} (h : thr.Env g0 g1 g2 g3 g4 g5 base As cs cap s but fL W seen) : ∀ i, i = g0 ∨ i = g1 ∨ i = g2 ∨ i = g3 ∨ i = g4 ∨ i = g5 → i < W.heap.size := by
  rintro i (rfl | rfl | rfl | rfl | rfl | rfl)
  · exact blk_lt h.b0
  · exact blk_lt h.b1
  · exact blk_lt h.b2
  · obtain ⟨c, hc⟩ := Kd.R_typed h.row i rfl
    exact blk_lt hc
  · exact blk_lt h.b4
  · exact blk_lt h.b5
theorem thr.Env.kept {W W1 : World} {seen : List Bool} (h : thr.Env g0 g1 g2 g3 g4 g5 base As cs cap s but fL W seen) (hk : ∀ i, i = g0 ∨ i = g1 ∨ i = g2 ∨ i = g3 ∨ i = g4 ∨ i = g5 → W1.heap[i]? = W.heap[i]?) :
    thr.Env g0 g1 g2 g3 g4 g5 base As cs cap s but fL W1 seen :=
  ⟨(hk _ (by simp)).trans h.b0, (hk _ (by simp)).trans h.b1, (hk _ (by simp)).trans h.b2, Kd.R_step h.row (fun k e _ => hk k (by simp [e])), (hk _ (by simp)).trans h.b4, (hk _ (by simp)).trans h.b5⟩
theorem thr.Env.put {W : World} {seen : List Bool} (h : thr.Env g0 g1 g2 g3 g4 g5 base As cs cap s but fL W seen) (x : Int) (b : Bool) :
    thr.Env g0 g1 g2 g3 g4 g5 base As cs cap s but fL (W.setCell ⟨g3, x.toNat, none⟩ (.bool b)) (seen.set x.toNat b) ∧ W.grownBy (W.setCell ⟨g3, x.toNat, none⟩ (.bool b)) (some g3) := by
  have hp := Kd.R_putg h.row x b
  obtain ⟨c, hc⟩ := Kd.R_typed h.row g3 rfl
  have ne : ∀ {i : Nat} {cells : Array Value} {t : TypeId}, W.heap[i]? = some (.cells cells t (0, 0)) → 4 ≠ t → (W.setCell ⟨g3, x.toNat, none⟩ (.bool b)).heap[i]? = some (.cells cells t (0, 0)) := fun hi ht =>
    (hp.2.block _ (blk_lt hi) (fun e => by injection e with e; exact blk_ne hc hi ht e.symm)).trans hi
  exact ⟨⟨ne h.b0 (by decide), ne h.b1 (by decide), ne h.b2 (by decide), hp.1, ne h.b4 (by decide), ne h.b5 (by decide)⟩, hp.2⟩
end
set_option maxHeartbeats 1000000 in
set_option maxRecDepth 100000 in
theorem thr.into {g0 g1 g2 g3 g4 g5 base cs cap : Nat} {As : Option Addr} {s : List (List Int)} {but : Int} {L : Nat} {lb : Array Value} {fn : Func} (hf : Try.prog.funcs[L]? = some fn) (hname : (fn.name == "runtime.NumGoroutine") = false) (hb : fn.body.isSome = true)
    (J : List Int → World → Prop) {hd : Nat → Option Addr × Nat} (hs : ∀ out W, J out W → Rows2 .i64 W As hd s) (hJ3 : ∀ out W W1, J out W → W.grownBy W1 (some g3) → J out W1)
    (hL : ∀ out W x, J out W → out.length < 17592186044415 → (∀ i, i = g0 ∨ i = g1 ∨ i = g2 ∨ i = g3 ∨ i = g4 ∨ i = g5 → i < W.heap.size) → Calls Try.prog L (#[.int .i64 x] ++ lb) W fun e W' => e = .returned (.tuple #[]) ∧ J (out ++ [x]) W' ∧ (∀ i, i = g0 ∨ i = g1 ∨ i = g2 ∨ i = g3 ∨ i = g4 ∨ i = g5 → W'.heap[i]? = W.heap[i]?)) :
    ∀ (n : Nat) (x : Int) (seen : List Bool) (out : List Int) (r : List Bool × List Int) (W : World), thr.dfs s but n x (seen, out) = some r →
      thr.Env g0 g1 g2 g3 g4 g5 base As cs cap s but (.func (.func L) #[] lb) W seen → J out W →
      Calls Try.prog 94 #[.int .i64 x, .pointer (some ⟨g1, 0, none⟩), .pointer (some ⟨g4, 0, none⟩), .pointer (some ⟨g0, 0, none⟩), .pointer (some ⟨g5, 0, none⟩), .pointer (some ⟨g2, 0, none⟩)] W
        fun e W' => e = .returned (.tuple #[]) ∧ thr.Env g0 g1 g2 g3 g4 g5 base As cs cap s but (.func (.func L) #[] lb) W' r.1 ∧ J r.2 W' := by
  intro n
  induction n with
  | zero => intro x seen out r W h; exact absurd h (by simp [thr.dfs])
  | succ n ih =>
    intro x seen out r W h HE HJ
    simp only [thr.dfs] at h
    have hc1 : W.cell? ⟨g1, 0, none⟩ = some (.int .i64 but) := (blk_cell HE.b1 0).trans rfl
    by_cases e1 : x = but
    · rw [if_pos e1] at h
      obtain rfl := Option.some.inj h
      subst e1
      have HE' := Aside0.mk HE
      clear HE h
      go_enter Try.func94, Try.ntmps94
      go_wp2
      refine bodyPost_ret (results_none rfl _ _ _) rfl ?_
      exact ⟨rfl, HE'.out, HJ⟩
    rw [if_neg e1] at h
    have e1b : (x == but) = false := beq_eq_false_iff_ne.2 e1
    by_cases e2 : 0 ≤ x ∧ x < (seen.length : Int) ∧ x < (s.length : Int)
    case neg => rw [if_neg e2] at h; exact absurd h (by simp)
    rw [if_pos e2] at h
    obtain ⟨x0, x1, x2⟩ := e2
    have hc4 : W.cell? ⟨g4, 0, none⟩ = some (.slice (some ⟨g3, 0, none⟩) s.length cap) := (blk_cell HE.b4 0).trans rfl
    obtain ⟨hc3, hf3⟩ := Kd.R_celln false HE.row x x0 x2
    cases e3 : rdOf false seen x with
    | true =>
      rw [if_pos (by exact e3)] at h
      obtain rfl := Option.some.inj h
      rw [e3] at hc3
      have HE' := Aside0.mk HE
      clear HE h e3 e1
      have px0 := eq_true x0
      have px2 := eq_true x2
      go_enter Try.func94, Try.ntmps94
      go_wp2
      refine bodyPost_ret (results_none rfl _ _ _) rfl ?_
      exact ⟨rfl, HE'.out, HJ⟩
    | false =>
      rw [if_neg (by simp [e3])] at h
      obtain ⟨st, h1, h2⟩ := Option.bind_eq_some_iff.1 h
      by_cases hroom : st.2.length < 17592186044415
      case neg => rw [if_neg hroom] at h2; exact absurd h2 (by simp)
      rw [if_pos hroom] at h2
      obtain rfl := Option.some.inj h2
      clear h2
      have HRm := Aside0.mk hroom
      clear hroom
      rw [e3] at hc3
      obtain ⟨HP0, hg⟩ := HE.put x true
      have HJ0 := hJ3 _ _ _ HJ hg
      obtain ⟨ad, rfl, _⟩ := hs _ _ HJ x.toNat (by omega)
      obtain ⟨A0, c0, hA⟩ : ∃ A0 c0, hd x.toNat = (A0, c0) := ⟨_, _, rfl⟩
      obtain ⟨kids, hkids⟩ : ∃ l, l = s.getD x.toNat [] := ⟨_, rfl⟩
      rw [← hkids] at h1
      have hs1 : ∀ out W, J out W → W.cell? (ad.add x.toNat) = some (.slice A0 kids.length c0) ∧ (Kd.int .i64).C W A0 kids.length kids := by
        intro out W hW
        obtain ⟨ad', e4, e5, _, e6⟩ := hs out W hW x.toNat (by omega)
        injection e4 with e4
        rw [hA] at e5 e6
        rw [hkids, e4]
        exact ⟨e5, e6⟩
      have HH := Aside0.mk hs1
      have Hh := Aside0.mk h1
      clear HE HJ hg h e3 e1 hs1 hA hkids h1
      have px0 := eq_true x0
      have px2 := eq_true x2
      go_enter Try.func94, Try.ntmps94
      go_wp2_with (first
        | ((with_reducible refine gate_store (t := 4) (p := 20) rfl ?_); refine store_event (t := 4) (p := 20) (v := ?vo) (w1 := W.setCell ⟨g3, x.toNat, none⟩ (.bool true)) ?hg ?ho ?hn ?hr ?_; (case ho => rfl); (case hg => rfl); (case hn => rfl); (case hr => first | (go_simp; done) | (go_simp; rfl)); intro W1 hw; have n1_ := Aside0.mk (by rw [hw]; exact HP0 : thr.Env g0 g1 g2 g3 g4 g5 base (some ad) cs cap s but (.func (.func L) #[] lb) W1 (seen.set x.toNat true)); have n2_ := Aside0.mk (by rw [hw]; exact HJ0 : J out W1); clear hw HP0 HJ0; have k0 : W1.cell? ⟨g0, 0, none⟩ = some (.slice (some ad) s.length cs) := (blk_cell n1_.out.b0 0).trans rfl; have k1 := (HH.out _ _ n2_.out).1))
      go_loopw [26] (fun i wr => ∃ (k : Nat) (st1 : List Bool × List Int), i = .int .i64 k ∧ Aside0 (k ≤ kids.length) ∧ Aside0 ((kids.drop k).foldlM (fun st t => thr.dfs s but n t st) st1 = some st) ∧ Aside0 (thr.Env g0 g1 g2 g3 g4 g5 base (some ad) cs cap s but (.func (.func L) #[] lb) wr st1.1) ∧ Aside0 (J st1.2 wr)) (fun i _ => kids.length - (intOf i).toNat)
      case atStart => exact ⟨0, _, rfl, ⟨Nat.zero_le _⟩, Hh, n1_, n2_⟩
      case round =>
        obtain ⟨k, st1, rfl, ⟨hk⟩, Hf, HE1, HJ1⟩ := hrel
        clear n1_ n2_ k0 k1
        by_cases hlt : k < kids.length
        · have hcons : kids.drop k = kids[k] :: kids.drop (k + 1) := List.drop_eq_getElem_cons hlt
          have hf1 := Hf.out
          rw [hcons, List.foldlM_cons] at hf1
          obtain ⟨st2, hstep, hrest⟩ := Option.bind_eq_some_iff.1 hf1
          obtain ⟨ad0, rfl, hx⟩ := Kd.at_int (HH.out _ _ HJ1.out).2 (k : Int) (by omega) (by omega)
          rw [show rd kids (k : Int) = kids[k] from by simp [rd, List.getD, hlt]] at hx
          rw [Int.toNat_natCast] at hx
          have k5 : wr.cell? ⟨g5, 0, none⟩ = some _ := (blk_cell HE1.out.b5 0).trans rfl
          have ihk := Aside0.mk (ih kids[k] st1.1 st1.2 st2 wr hstep HE1.out HJ1.out)
          have Hr := Aside0.mk hrest
          clear hf1 hcons hstep hrest Hf
          generalize hq : kids[k] = q at *
          clear hq
          have p0 : (0 : Int) ≤ (k : Int) := by omega
          have p9 : kids.length ≤ 9223372036854775807 := (HH.out _ _ HJ1.out).2.2.1
          go_wp2_with (first
            | (go_at_call 94; refine ihk.out.mono ?_; rintro e W2 ⟨rfl, hE2, hJ2⟩; have HE2 := Aside0.mk hE2; have HJ2 := Aside0.mk hJ2; clear hE2 hJ2))
          go_roundw
          case rel => exact ⟨k + 1, st2, by go_num, ⟨by omega⟩, Hr, HE2, HJ2⟩
          case measure => simp [intOf]; omega
        · have hk2 : k = kids.length := by omega
          subst hk2
          have hf1 := Hf.out
          rw [List.drop_length] at hf1
          obtain rfl := Option.some.inj hf1
          have k2 : wr.cell? ⟨g2, 0, none⟩ = some (.func (.func L) #[] lb) := (blk_cell HE1.out.b2 0).trans rfl
          have hL1 := Aside0.mk (hL _ _ x HJ1.out HRm.out HE1.out.lts)
          clear hf1 Hf
          go_wp2_with (first
            | ((with_reducible refine gate_dst (N := 36) rfl ?_); refine goesV_ (some 36) rfl rfl (f := L) rfl rfl hf hname hb (#[.int .i64 x] ++ lb) (congrArg (· ++ lb) (by simp only [List.map_toArray, List.map_cons, List.map_nil]; rfl)) ?_; refine hL1.out.mono ?_; rintro e W2 ⟨rfl, hJ2, hk⟩; have HE2 := Aside0.mk (HE1.out.kept hk); have HJ2 := Aside0.mk hJ2; clear hJ2 hk; refine ⟨_, rfl, ?_⟩))
          refine bodyPost_end (results_none rfl _ _ _) rfl ?_
          exact ⟨rfl, HE2.out, HJ2.out⟩
/-- Who was seen, and who was left, from block 0 on. -/
def thr.go (s : List (List Int)) (but : Int) : Option (List Bool × List Int) :=
  if s.length = 0 then some ([], []) else thr.dfs s but (s.length + 1) 0 (List.replicate s.length false, [])
/-- The world behind the parameters' boxes. -/
def thr.W2 (w : World) (As : Option Addr) (n cs : Nat) (but : Int) (fL : Value) : World :=
  ((w.alloc (.cells #[.slice As n cs] 22)).alloc (.cells #[.int .i64 but] 3)).alloc (.cells #[fL] 74)
theorem thr.W2_size (w : World) (As : Option Addr) (n cs : Nat) (but : Int) (fL : Value) : (thr.W2 w As n cs but fL).heap.size = w.heap.size + 3 := by simp [thr.W2]
theorem thr.W2_0 (w : World) (As : Option Addr) (n cs : Nat) (but : Int) (fL : Value) : (thr.W2 w As n cs but fL).heap[w.heap.size]? = some (.cells #[.slice As n cs] 22 (0, 0)) := by
  simp only [thr.W2, heap_alloc_push, Array.getElem?_push, Array.size_push]; (simp <;> omega)
theorem thr.W2_1 (w : World) (As : Option Addr) (n cs : Nat) (but : Int) (fL : Value) : (thr.W2 w As n cs but fL).heap[w.heap.size + 1]? = some (.cells #[.int .i64 but] 3 (0, 0)) := by
  simp only [thr.W2, heap_alloc_push, Array.getElem?_push, Array.size_push]; (simp <;> omega)
theorem thr.W2_2 (w : World) (As : Option Addr) (n cs : Nat) (but : Int) (fL : Value) : (thr.W2 w As n cs but fL).heap[w.heap.size + 1 + 1]? = some (.cells #[fL] 74 (0, 0)) := by
  simp only [thr.W2, heap_alloc_push, Array.getElem?_push, Array.size_push]; (simp <;> omega)
theorem thr.W2_below (w : World) (As : Option Addr) (n cs : Nat) (but : Int) (fL : Value) : Below w.heap.size w (thr.W2 w As n cs but fL) :=
  (((Below.refl _ _).alloc (Nat.le_refl _) _).alloc (by simp) _).alloc (by simp; omega) _
set_option maxHeartbeats 1000000 in
set_option maxRecDepth 100000 in
theorem thr.through {cs : Nat} {As : Option Addr} {s : List (List Int)} {but : Int} {L : Nat} {lb : Array Value} {fn : Func} (hf : Try.prog.funcs[L]? = some fn) (hname : (fn.name == "runtime.NumGoroutine") = false) (hb : fn.body.isSome = true) (w : World)
    (J : (Nat → Prop) → List Int → World → Prop) {hd : Nat → Option Addr × Nat} (hs : ∀ T out W, J T out W → Rows2 .i64 W As hd s) (hlen : s.length ≤ 9223372036854775807) (hroom : s.length ≤ 281474976710656)
    (hJ0 : ∀ T : Nat → Prop, (∀ i, T i → w.heap.size ≤ i) → J T [] w)
    (hJ1 : ∀ (T : Nat → Prop) out W W1, J T out W → (∀ i, T i → w.heap.size ≤ i) → KeepO T W W1 → J T out W1)
    (hL : ∀ T out W x, J T out W → out.length < 17592186044415 → (∀ i, T i → w.heap.size ≤ i) → (∀ i, T i → i < W.heap.size) → Calls Try.prog L (#[.int .i64 x] ++ lb) W fun e W' => e = .returned (.tuple #[]) ∧ J T (out ++ [x]) W' ∧ (∀ i, T i → W'.heap[i]? = W.heap[i]?))
    (r : List Bool × List Int) (h : thr.go s but = some r) :
    Calls Try.prog 77 #[.slice As s.length cs, .int .i64 but, .func (.func L) #[] lb] w
      fun e W' => ∃ (v : Value) (T : Nat → Prop), e = .returned v ∧ (∀ i, T i → w.heap.size ≤ i) ∧ Kd.bool.R 4 W' w.heap.size T v r.1 ∧ J T r.2 W' := by
  have p0 : (0 : Int) ≤ (s.length : Int) := by omega
  have HJ1 := Aside0.mk hJ1
  clear hJ1
  obtain ⟨n, hn⟩ : ∃ n, n = s.length := ⟨_, rfl⟩
  have Hn := Aside0.mk hn
  have hw2 := Aside0.mk (thr.W2_below w As n cs but (.func (.func L) #[] lb))
  have hz2 := Aside0.mk (thr.W2_size w As n cs but (.func (.func L) #[] lb))
  have h20 := Aside0.mk (thr.W2_0 w As n cs but (.func (.func L) #[] lb))
  have h21 := Aside0.mk (thr.W2_1 w As n cs but (.func (.func L) #[] lb))
  have h22 := Aside0.mk (thr.W2_2 w As n cs but (.func (.func L) #[] lb))
  rw [← hn] at hlen hroom p0 ⊢
  clear hn
  have hs0 := Aside0.mk hs
  have hL0 := Aside0.mk hL
  have hJ0' := Aside0.mk hJ0
  have Hh := Aside0.mk h
  clear hs hL hJ0 h
  go_enter Try.func77, Try.ntmps77
  go_wp2_with (first
    | ((with_reducible refine gate_dst (N := 11) rfl ?_); refine Kd.R_make Kd.bool (w0 := thr.W2 w As n cs but (.func (.func L) #[] lb)) (thr.W2 w As n cs but (.func (.func L) #[] lb)).heap.size 4 rfl (N := 11) rfl 32 _ _ rfl (n : Int) rfl rfl Try.underlying32 (.bool false) 1 info4 rfl (by decide) (by omega) false (ok := fun _ => True) (okp := fun _ => True) rfl (fun _ hk => hk) trivial (by omega) (by omega) (Below.refl _ _) (Nat.le_refl _) ?_; intro v1 W3 hR3 hB3 hg3 hown3; obtain ⟨g3, c3, hv, hl3, hg3'⟩ := R_form' hR3 hown3; rw [List.length_replicate, Int.toNat_natCast] at hv; subst hv; rw [Int.toNat_natCast] at hR3; have z3 := hB3.size; rw [hz2.out] at z3; have y3 : w.heap.size ≤ g3 := by (have q := hg3'; simp at q; omega)
       have HR := Aside0.mk (R_ok_bool (ok' := fun k => k = g3) (Kd.R_lower (base' := w.heap.size) hR3 (by rw [hz2.out]; omega)) (fun k hk => by injection hk with hk; exact hk.symm)); have HB := Aside0.mk (hw2.out.trans (hB3.mono (B' := w.heap.size) (by rw [hz2.out]; omega))); have HL := Aside0.mk ((((Bl.nil W3).cons (blk_of_below hB3 (by rw [hz2.out]; omega) h20.out)).cons (blk_of_below hB3 (by rw [hz2.out]; omega) h21.out)).cons (blk_of_below hB3 (by rw [hz2.out]; omega) h22.out)); have l3 := Aside0.mk hl3; clear hl3; clear hR3 hB3 hg3 hown3 hg3')
    | ((with_reducible refine gate_dst (N := 7) rfl ?_); refine box_event ?hg (N := 7) ?hd (cs := #[.slice none 0 0]) (t := 32) ?hr ?_; (case hd => rfl); (case hg => rfl); (case hr => first | (go_simp; done) | (go_simp; rfl)); intro g4 hg4 W4 hb4 hB4; have y4 : W3.heap.size ≤ g4 := by (rw [hg4]; exact Nat.le_refl _)
       have z4 := blk_lt hb4; have c7 : W4.cell? ⟨g4, 0, none⟩ = some (.slice none 0 0) := (blk_cell hb4 0).trans rfl; have f7 := blk_frozen hb4 0; have HR4 := Aside0.mk (Kd.R_below HR.out hB4); have HB4 := Aside0.mk (HB.out.trans (hB4.mono HB.out.size)); have HL4 := Aside0.mk ((HL.out.below hB4).cons hb4); clear hg4 hb4 hB4)
    | ((with_reducible refine gate_store (t := 32) (p := 7) rfl ?_); refine store_event (t := 32) (p := 7) (v := ?vo7) (w1 := W4.setCell ⟨g4, 0, none⟩ (.slice (some ⟨g3, 0, none⟩) n c3)) ?hg ?ho ?hn ?hr ?_; (case ho => rfl); (case hg => rfl); (case hn => rfl); (case hr => first | (go_simp; done) | (go_simp; rfl)); intro W5 hw
       have q5 := HL4.out.put (cs' := #[.slice (some ⟨g3, 0, none⟩) n c3]) (fun p hp => Nat.ne_of_lt (Nat.lt_of_lt_of_le (blk_lt (HL.out p hp)) y4)) 0 (.slice (some ⟨g3, 0, none⟩) n c3) rfl
       have r5 := Kd.R_far HR4.out (p := ⟨g4, 0, none⟩) (fun k hk => by rw [hk]; exact Nat.ne_of_lt (Nat.lt_of_lt_of_le l3.out y4)) (.slice (some ⟨g3, 0, none⟩) n c3)
       have s5 := HB4.out.setCell (p := ⟨g4, 0, none⟩) (by (show w.heap.size ≤ g4); omega) (.slice (some ⟨g3, 0, none⟩) n c3)
       rw [← hw] at q5 r5 s5
       have z5 : g4 < W5.heap.size := blk_lt (q5 _ List.mem_cons_self)
       have HL5 := Aside0.mk q5; have HR5 := Aside0.mk r5; have HB5 := Aside0.mk s5; clear q5 r5 s5 hw c7 f7 HR4 HB4 HL4)
    | ((with_reducible refine gate_dst (N := 8) rfl ?_); refine box_event ?hg (N := 8) ?hd (cs := #[.nilFunc]) (t := 74) ?hr ?_; (case hd => rfl); (case hg => rfl); (case hr => first | (go_simp; done) | (go_simp; rfl)); intro g5 hg5 W6 hb6 hB6; have y5 : W5.heap.size ≤ g5 := by (rw [hg5]; exact Nat.le_refl _)
       have c8 : W6.cell? ⟨g5, 0, none⟩ = some .nilFunc := (blk_cell hb6 0).trans rfl; have f8 := blk_frozen hb6 0; have HR6 := Aside0.mk (Kd.R_below HR5.out hB6); have HB6 := Aside0.mk (HB5.out.trans (hB6.mono HB5.out.size)); have HL6 := Aside0.mk ((HL5.out.below hB6).cons hb6); clear hg5 hb6 hB6)
    | ((with_reducible refine gate_store (t := 74) (p := 8) rfl ?_); refine store_event (t := 74) (p := 8) (v := ?vo8) (w1 := W6.setCell ⟨g5, 0, none⟩ (.func (.func 94) #[] #[.pointer (some ⟨w.heap.size + 1, 0, none⟩), .pointer (some ⟨g4, 0, none⟩), .pointer (some ⟨w.heap.size, 0, none⟩), .pointer (some ⟨g5, 0, none⟩), .pointer (some ⟨w.heap.size + 1 + 1, 0, none⟩)])) ?hg ?ho ?hn ?hr ?_; (case ho => rfl); (case hg => rfl); (case hn => rfl); (case hr => first | (go_simp; done) | (go_simp; rfl)); intro W7 hw
       have q7 := HL6.out.put (cs' := #[.func (.func 94) #[] #[.pointer (some ⟨w.heap.size + 1, 0, none⟩), .pointer (some ⟨g4, 0, none⟩), .pointer (some ⟨w.heap.size, 0, none⟩), .pointer (some ⟨g5, 0, none⟩), .pointer (some ⟨w.heap.size + 1 + 1, 0, none⟩)]]) (fun p hp => Nat.ne_of_lt (Nat.lt_of_lt_of_le (blk_lt (HL5.out p hp)) y5)) 0 (.func (.func 94) #[] #[.pointer (some ⟨w.heap.size + 1, 0, none⟩), .pointer (some ⟨g4, 0, none⟩), .pointer (some ⟨w.heap.size, 0, none⟩), .pointer (some ⟨g5, 0, none⟩), .pointer (some ⟨w.heap.size + 1 + 1, 0, none⟩)]) rfl
       have r7 := Kd.R_far HR6.out (p := ⟨g5, 0, none⟩) (fun k hk => by rw [hk]; exact Nat.ne_of_lt (Nat.lt_of_lt_of_le l3.out (show W3.heap.size ≤ g5 by omega))) (.func (.func 94) #[] #[.pointer (some ⟨w.heap.size + 1, 0, none⟩), .pointer (some ⟨g4, 0, none⟩), .pointer (some ⟨w.heap.size, 0, none⟩), .pointer (some ⟨g5, 0, none⟩), .pointer (some ⟨w.heap.size + 1 + 1, 0, none⟩)])
       have s7 := HB6.out.setCell (p := ⟨g5, 0, none⟩) (by (show w.heap.size ≤ g5); omega) (.func (.func 94) #[] #[.pointer (some ⟨w.heap.size + 1, 0, none⟩), .pointer (some ⟨g4, 0, none⟩), .pointer (some ⟨w.heap.size, 0, none⟩), .pointer (some ⟨g5, 0, none⟩), .pointer (some ⟨w.heap.size + 1 + 1, 0, none⟩)])
       rw [← hw] at q7 r7 s7
       have k0 : W7.cell? ⟨w.heap.size, 0, none⟩ = some (.slice As n cs) := (blk_cell (cs := #[.slice As n cs]) (t := 22) (q7.get (by simp)) 0).trans rfl
       have k7 : W7.cell? ⟨g4, 0, none⟩ = some (.slice (some ⟨g3, 0, none⟩) n c3) := (blk_cell (cs := #[.slice (some ⟨g3, 0, none⟩) n c3]) (t := 32) (q7.get (by simp)) 0).trans rfl
       have k8 : W7.cell? ⟨g5, 0, none⟩ = some (.func (.func 94) #[] #[.pointer (some ⟨w.heap.size + 1, 0, none⟩), .pointer (some ⟨g4, 0, none⟩), .pointer (some ⟨w.heap.size, 0, none⟩), .pointer (some ⟨g5, 0, none⟩), .pointer (some ⟨w.heap.size + 1 + 1, 0, none⟩)]) := (blk_cell (cs := #[.func (.func 94) #[] #[.pointer (some ⟨w.heap.size + 1, 0, none⟩), .pointer (some ⟨g4, 0, none⟩), .pointer (some ⟨w.heap.size, 0, none⟩), .pointer (some ⟨g5, 0, none⟩), .pointer (some ⟨w.heap.size + 1 + 1, 0, none⟩)]]) (t := 74) (q7.get (by simp)) 0).trans rfl
       have HL7 := Aside0.mk q7; have HR7 := Aside0.mk r7; have HB7 := Aside0.mk s7; clear q7 r7 s7 hw c8 f8 HR6 HB6 HL6)
    | (go_at_call 94
       have hpos : 0 < n := by assumption
       have hT : ∀ i, (i = w.heap.size ∨ i = w.heap.size + 1 ∨ i = w.heap.size + 1 + 1 ∨ i = g3 ∨ i = g4 ∨ i = g5) → w.heap.size ≤ i := by (intro i hi; omega)
       have hJ7 := HJ1.out _ _ _ W7 (hJ0'.out _ hT) hT (KeepO.of_below HB7.out)
       have hgo := Hh.out
       unfold thr.go at hgo
       rw [if_neg (by rw [← Hn.out]; omega)] at hgo
       have hE7 : thr.Env w.heap.size (w.heap.size + 1) (w.heap.size + 1 + 1) g3 g4 g5 w.heap.size As cs c3 s but (.func (.func L) #[] lb) W7 (List.replicate s.length false) := by
         have hL7 := HL7.out
         have hR7 := HR7.out
         rw [Hn.out] at hL7 hR7
         exact ⟨hL7.get (by simp), hL7.get (by simp), hL7.get (by simp), hR7, hL7.get (by simp), hL7.get (by simp)⟩
       refine (thr.into hf hname hb (J fun i => (i = w.heap.size ∨ i = w.heap.size + 1 ∨ i = w.heap.size + 1 + 1 ∨ i = g3 ∨ i = g4 ∨ i = g5)) (hs0.out _) (fun out W W1 hJ hg => HJ1.out _ out W W1 hJ hT (KeepO.of_grown hg (by simp))) (fun out W x hJ hr hl => (hL0.out _ out W x hJ hr hT hl)) _ 0 _ [] r W7 hgo hE7 hJ7).mono ?_
       rintro e W8 ⟨rfl, hE8, hJ8⟩
       have k9 : W8.cell? ⟨g4, 0, none⟩ = some (.slice (some ⟨g3, 0, none⟩) s.length c3) := (blk_cell hE8.b4 0).trans rfl
       have HE8 := Aside0.mk hE8; have HJ8 := Aside0.mk hJ8; clear hE8 hJ8 hE7 hgo hJ7)
    )
  · go_ret
    exact ⟨_, (fun i => i = w.heap.size ∨ i = w.heap.size + 1 ∨ i = w.heap.size + 1 + 1 ∨ i = g3 ∨ i = g4 ∨ i = g5), rfl, fun i hi => by omega, Kd.R_mono HE8.out.row (fun k hk => by simp [hk]), HJ8.out⟩
  · have hz : n = 0 := by omega
    have hgo := Hh.out
    unfold thr.go at hgo
    rw [if_pos (by rw [← Hn.out]; exact hz)] at hgo
    obtain rfl := Option.some.inj hgo
    have hT : ∀ i, (i = w.heap.size ∨ i = w.heap.size + 1 ∨ i = w.heap.size + 1 + 1 ∨ i = g3 ∨ i = g4 ∨ i = g5) → w.heap.size ≤ i := by intro i hi; omega
    have hR7 := HR7.out
    subst hz
    go_ret
    exact ⟨_, (fun i => i = w.heap.size ∨ i = w.heap.size + 1 ∨ i = w.heap.size + 1 + 1 ∨ i = g3 ∨ i = g4 ∨ i = g5), rfl, hT, Kd.R_mono hR7 (fun k hk => by simp [hk]), HJ1.out _ _ _ W7 (hJ0'.out _ hT) hT (KeepO.of_below HB7.out)⟩
end Go.Proofs.Ytjibojmbhbaneaa.PRm
