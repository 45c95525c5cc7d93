/- balustraderef15.Right: is an instruction as the document says? -/
import Derived.Test.YtjibojmbhbaneaaPRmx8
import Derived.Test.YtjibojmbhbaneaaXKit
import Derived.Test.YtjibojmbhbaneaaXQuiet
import Derived.Deep.QuietTactic
import Derived.BigQuiet
namespace Go.Proofs.Ytjibojmbhbaneaa.PRm
open Go.RowKit Go.Proofs.YtjibojmbhbaneaaW.PrintWords Go.Proofs.YtjibojmbhbaneaaW.PrintLast Go.Proofs.YtjibojmbhbaneaaW.PrintMore Go.Proofs.Ytjibojmbhbaneaa.X
set_option linter.unusedVariables false
/-- A number that an Op has, or 0. -/
def rright.fit (has : Bool) (n : Int) : Bool := n == 0 || (has && decide (n > 0))
def rright.args : List Int → Bool
  | [] => true
  | a :: l => if a < 0 then false else rright.args l
def rright.last (op n m : Int) (len : Nat) : Bool :=
  if op = 39 then decide (n ≥ 0) && m == 0 && decide (len ≤ 8)
  else if op = 44 then n == 0 && m == 0 && decide (len ≥ 1)
  else if op = 45 then n == 0 && (decide (m ≥ 3) && decide (m ≤ 8) || m == 20 || m == 21) && len == 0
  else if len > 0 then false
  else if op = 20 then m == 0
  else if op = 21 then m == 0 && (n == 0 || n == 1)
  else if op = 41 then m == 0 && decide (n ≥ 0)
  else if op = 42 then decide (m ≥ 0) && decide (n ≥ 0) && m != n
  else n == 0 && m == 0
def rright.bad (bb o wr ck : Bool) (op dst a b c m site : Int) : Bool :=
  !rright.fit wr dst || !rright.fit (bb || o) a || !rright.fit (bb && (op != 45 || m != 21)) b || !rright.fit (op == 30) c || !rright.fit ck site
def balustraderef15_Right.f (k : Nat) (a0_0 : Int) (a0_1 : Int) (a0_2 : Int) (a0_3 : Int) (a0_4 : Int) (a0_5 : Int) (a0_6 : Int) (a0_7 : Int) (l0_8 : List Int) : Option (Bool) :=
  if a0_0 < 3 then some false
  else if a0_0 > 45 then some false
  else if a0_0 > 16 ∧ a0_0 < 20 then some false
  else (balustraderef15_two.f k a0_0).bind fun t => (balustraderef15_one.f k a0_0).bind fun o => (balustraderef15_Writes.f a0_0).bind fun wr => (balustraderef15_Check.f a0_0).bind fun ck =>
    some (if rright.bad (t || a0_0 == 30 || a0_0 == 45) o wr ck a0_0 a0_1 a0_2 a0_3 a0_4 a0_6 a0_7 then false else if rright.args l0_8 then rright.last a0_0 a0_5 a0_6 l0_8.length else false)
theorem rright.region {P : Program} {C : World → Prop} {id : Nat} {Q : Exit → Act → World → Prop} {a : Act} {w : World} {l : List Oper} (hm : P.follows .mixedOrders = true) (hB : Region.lexB .any l.toArray = true) (hC : C w.drew)
    (h : wpQuiet P l.toArray C (fun a' => ∀ w', C w' → Q .normal a' w') l a) : (Code.region id l.toArray true).wp P Q a w := wp_region_quiet hm hB hC (by simpa using h)
theorem rright.q {P : Program} {f : FuncId} {args : Array Value} {w : World} {n : Nat} {v : Value} (h : Calls P f args (w.drewN n) fun e w' => e = .returned v ∧ Drawn0 (w.drewN n) w') : Calls P f args (w.drewN n) fun e w' => e = .returned v ∧ ∃ m, w' = w.drewN m :=
  Calls.quiet_of (h.mono fun _ _ h => ⟨h.1, h.2.out⟩)
theorem rright.fits_f (b : Bool) (n : Int) : balustraderef15_fits.f b n = some (rright.fit b n) := by
  unfold balustraderef15_fits.f rright.fit
  by_cases h : n = 0
  · simp [h]
  · cases b <;> simp [h]
theorem rright.fitsC (b : Bool) (n : Int) (w : World) : Calls Try.prog 90 #[.bool b, .int .i64 n] w fun e w' => e = .returned (.bool (rright.fit b n)) ∧ Drawn0 w w' := balustraderef15_fits.calls b n _ w (rright.fits_f b n)
def rright.at4 : String := "ref.go:37"
/-- Region 4's operations. -/
def rright.ops4 : List Oper := ⟨some 36, .fieldAddr 50 (.tmp 1) 0, 0, rright.at4, #[], none⟩ :: ⟨some 37, .load 3 (.tmp 36), 3, rright.at4, #[⟨0, .data⟩], none⟩ :: ⟨some 38, .call ⟨.value (.func 91), #[.tmp 37], #[3]⟩, 4, rright.at4, #[⟨1, .data⟩], none⟩ :: ⟨some 39, .fieldAddr 50 (.tmp 1) 1, 0, rright.at4, #[], none⟩ :: ⟨some 40, .load 3 (.tmp 39), 3, rright.at4, #[⟨3, .data⟩], none⟩ :: ⟨some 41, .call ⟨.value (.func 90), #[.tmp 38, .tmp 40], #[4, 3]⟩, 4, rright.at4, #[⟨2, .data⟩, ⟨4, .data⟩, ⟨2, .chain⟩], none⟩ :: ⟨some 42, .unOp .not 4 (.tmp 41), 4, rright.at4, #[⟨5, .data⟩], none⟩ :: ⟨some 43, .move (.tmp 42), 4, rright.at4, #[⟨6, .data⟩, ⟨5, .chain⟩], none⟩ :: ⟨some 44, .move (.tmp 3), 4, rright.at4, #[⟨7, .guard⟩], some (7, false)⟩ :: ⟨some 45, .move (.tmp 44), 4, rright.at4, #[⟨8, .data⟩, ⟨7, .chain⟩, ⟨7, .guard⟩], some (7, false)⟩ :: ⟨some 46, .fieldAddr 50 (.tmp 1) 0, 0, rright.at4, #[⟨9, .guard⟩], some (9, false)⟩ :: ⟨some 47, .load 3 (.tmp 46), 3, rright.at4, #[⟨10, .data⟩, ⟨9, .guard⟩], some (9, false)⟩ :: ⟨some 48, .call ⟨.value (.func 92), #[.tmp 47], #[3]⟩, 4, rright.at4, #[⟨11, .data⟩, ⟨9, .chain⟩, ⟨9, .guard⟩], some (9, false)⟩ :: ⟨some 49, .pick (.tmp 45) (.const (.bool true)) (.tmp 48), 4, rright.at4, #[⟨9, .data⟩, ⟨12, .data⟩, ⟨7, .guard⟩], some (7, false)⟩ :: ⟨some 50, .fieldAddr 50 (.tmp 1) 2, 0, rright.at4, #[⟨7, .guard⟩], some (7, false)⟩ :: ⟨some 51, .load 3 (.tmp 50), 3, rright.at4, #[⟨14, .data⟩, ⟨7, .guard⟩], some (7, false)⟩ :: ⟨some 52, .call ⟨.value (.func 90), #[.tmp 49, .tmp 51], #[4, 3]⟩, 4, rright.at4, #[⟨13, .data⟩, ⟨15, .data⟩, ⟨12, .chain⟩, ⟨7, .guard⟩], some (7, false)⟩ :: ⟨some 53, .unOp .not 4 (.tmp 52), 4, rright.at4, #[⟨16, .data⟩, ⟨7, .guard⟩], some (7, false)⟩ :: ⟨some 54, .pick (.tmp 43) (.const (.bool true)) (.tmp 53), 4, rright.at4, #[⟨7, .data⟩, ⟨17, .data⟩], none⟩ :: ⟨some 55, .move (.tmp 54), 4, rright.at4, #[⟨18, .data⟩, ⟨16, .chain⟩], none⟩ :: ⟨some 56, .move (.tmp 3), 4, rright.at4, #[⟨19, .guard⟩], some (19, false)⟩ :: ⟨some 57, .move (.tmp 56), 4, rright.at4, #[⟨20, .data⟩, ⟨19, .chain⟩, ⟨19, .guard⟩], some (19, false)⟩ :: ⟨some 58, .fieldAddr 50 (.tmp 1) 0, 0, rright.at4, #[⟨21, .guard⟩], some (21, true)⟩ :: ⟨some 59, .load 3 (.tmp 58), 3, rright.at4, #[⟨22, .data⟩, ⟨21, .guard⟩], some (21, true)⟩ :: ⟨some 60, .binOp .neq 3 (.tmp 59) (.const (.int .i64 45)) 3, 4, rright.at4, #[⟨23, .data⟩, ⟨21, .guard⟩], some (21, true)⟩ :: ⟨some 61, .move (.tmp 60), 4, rright.at4, #[⟨24, .data⟩, ⟨21, .chain⟩, ⟨21, .guard⟩], some (21, true)⟩ :: ⟨some 62, .fieldAddr 50 (.tmp 1) 6, 0, rright.at4, #[⟨25, .guard⟩], some (25, false)⟩ :: ⟨some 63, .load 3 (.tmp 62), 3, rright.at4, #[⟨26, .data⟩, ⟨25, .guard⟩], some (25, false)⟩ :: ⟨some 64, .binOp .neq 3 (.tmp 63) (.const (.int .i64 21)) 3, 4, rright.at4, #[⟨27, .data⟩, ⟨25, .guard⟩], some (25, false)⟩ :: ⟨some 65, .pick (.tmp 61) (.const (.bool true)) (.tmp 64), 4, rright.at4, #[⟨25, .data⟩, ⟨28, .data⟩, ⟨21, .guard⟩], some (21, true)⟩ :: ⟨some 66, .pick (.tmp 57) (.tmp 65) (.const (.bool false)), 4, rright.at4, #[⟨21, .data⟩, ⟨29, .data⟩, ⟨19, .guard⟩], some (19, false)⟩ :: ⟨some 67, .fieldAddr 50 (.tmp 1) 3, 0, rright.at4, #[⟨19, .guard⟩], some (19, false)⟩ :: ⟨some 68, .load 3 (.tmp 67), 3, rright.at4, #[⟨31, .data⟩, ⟨19, .guard⟩], some (19, false)⟩ :: ⟨some 69, .call ⟨.value (.func 90), #[.tmp 66, .tmp 68], #[4, 3]⟩, 4, rright.at4, #[⟨30, .data⟩, ⟨32, .data⟩, ⟨25, .chain⟩, ⟨19, .guard⟩], some (19, false)⟩ :: ⟨some 70, .unOp .not 4 (.tmp 69), 4, rright.at4, #[⟨33, .data⟩, ⟨19, .guard⟩], some (19, false)⟩ :: ⟨some 71, .pick (.tmp 55) (.const (.bool true)) (.tmp 70), 4, rright.at4, #[⟨19, .data⟩, ⟨34, .data⟩], none⟩ :: ⟨some 72, .move (.tmp 71), 4, rright.at4, #[⟨35, .data⟩, ⟨33, .chain⟩], none⟩ :: ⟨some 73, .fieldAddr 50 (.tmp 1) 0, 0, rright.at4, #[⟨36, .guard⟩], some (36, false)⟩ :: ⟨some 74, .load 3 (.tmp 73), 3, rright.at4, #[⟨37, .data⟩, ⟨36, .guard⟩], some (36, false)⟩ :: ⟨some 75, .binOp .eql 3 (.tmp 74) (.const (.int .i64 30)) 3, 4, rright.at4, #[⟨38, .data⟩, ⟨36, .guard⟩], some (36, false)⟩ :: ⟨some 76, .fieldAddr 50 (.tmp 1) 4, 0, rright.at4, #[⟨36, .guard⟩], some (36, false)⟩ :: ⟨some 77, .load 3 (.tmp 76), 3, rright.at4, #[⟨40, .data⟩, ⟨36, .guard⟩], some (36, false)⟩ :: ⟨some 78, .call ⟨.value (.func 90), #[.tmp 75, .tmp 77], #[4, 3]⟩, 4, rright.at4, #[⟨39, .data⟩, ⟨41, .data⟩, ⟨36, .chain⟩, ⟨36, .guard⟩], some (36, false)⟩ :: ⟨some 79, .unOp .not 4 (.tmp 78), 4, rright.at4, #[⟨42, .data⟩, ⟨36, .guard⟩], some (36, false)⟩ :: ⟨some 80, .pick (.tmp 72) (.const (.bool true)) (.tmp 79), 4, rright.at4, #[⟨36, .data⟩, ⟨43, .data⟩], none⟩ :: ⟨some 81, .move (.tmp 80), 4, rright.at4, #[⟨44, .data⟩, ⟨42, .chain⟩], none⟩ :: ⟨some 82, .fieldAddr 50 (.tmp 1) 0, 0, rright.at4, #[⟨45, .guard⟩], some (45, false)⟩ :: ⟨some 83, .load 3 (.tmp 82), 3, rright.at4, #[⟨46, .data⟩, ⟨45, .guard⟩], some (45, false)⟩ :: ⟨some 84, .call ⟨.value (.func 93), #[.tmp 83], #[3]⟩, 4, rright.at4, #[⟨47, .data⟩, ⟨45, .chain⟩, ⟨45, .guard⟩], some (45, false)⟩ :: ⟨some 85, .fieldAddr 50 (.tmp 1) 7, 0, rright.at4, #[⟨45, .guard⟩], some (45, false)⟩ :: ⟨some 86, .load 3 (.tmp 85), 3, rright.at4, #[⟨49, .data⟩, ⟨45, .guard⟩], some (45, false)⟩ :: ⟨some 87, .call ⟨.value (.func 90), #[.tmp 84, .tmp 86], #[4, 3]⟩, 4, rright.at4, #[⟨48, .data⟩, ⟨50, .data⟩, ⟨48, .chain⟩, ⟨45, .guard⟩], some (45, false)⟩ :: ⟨some 88, .unOp .not 4 (.tmp 87), 4, rright.at4, #[⟨51, .data⟩, ⟨45, .guard⟩], some (45, false)⟩ :: ⟨some 89, .pick (.tmp 81) (.const (.bool true)) (.tmp 88), 4, rright.at4, #[⟨45, .data⟩, ⟨52, .data⟩], none⟩ :: []
set_option maxHeartbeats 4000000 in
set_option maxRecDepth 100000 in
theorem rright.reg4 {a : Act} {g0 : Nat} {a0 a1 a2 a3 a4 a6 a7 : Int} {bb o wr ck y1 y2 y3 y4 y5 z45 z21 z30 : Bool} {C : World → Prop} {K : Act → Prop} (hF : Fr a 229 [(1, .pointer (some ⟨g0, 0, none⟩)), (3, .bool bb)])
    (hcell : ∀ (i : Nat) (v : Value), lk [(0, Value.int .i64 a0), (1, .int .i64 a1), (2, .int .i64 a2), (3, .int .i64 a3), (4, .int .i64 a4), (6, .int .i64 a6), (7, .int .i64 a7)] i = some v → ∀ W, C W → W.cell? ⟨g0, i, none⟩ = some v)
    (hz : (a0 != 45) = z45) (hz1 : (a6 != 21) = z21) (hz3 : (a0 == 30) = z30)
    (hcW : ∀ W, C W → Calls Try.prog 91 #[.int .i64 a0] W fun e w' => e = .returned (.bool wr) ∧ C w') (hcO : ∀ W, C W → Calls Try.prog 92 #[.int .i64 a0] W fun e w' => e = .returned (.bool o) ∧ C w') (hcK : ∀ W, C W → Calls Try.prog 93 #[.int .i64 a0] W fun e w' => e = .returned (.bool ck) ∧ C w')
    (h1 : ∀ W, C W → Calls Try.prog 90 #[.bool wr, .int .i64 a1] W fun e w' => e = .returned (.bool (!y1)) ∧ C w') (h2 : ∀ W, C W → Calls Try.prog 90 #[.bool (bb || o), .int .i64 a2] W fun e w' => e = .returned (.bool (!y2)) ∧ C w') (h3 : ∀ W, C W → Calls Try.prog 90 #[.bool (bb && (z45 || z21)), .int .i64 a3] W fun e w' => e = .returned (.bool (!y3)) ∧ C w') (h4 : ∀ W, C W → Calls Try.prog 90 #[.bool z30, .int .i64 a4] W fun e w' => e = .returned (.bool (!y4)) ∧ C w') (h5 : ∀ W, C W → Calls Try.prog 90 #[.bool ck, .int .i64 a7] W fun e w' => e = .returned (.bool (!y5)) ∧ C w')
    (hK : ∀ {v36 v37 v38 v39 v40 v41 v42 v43 v44 v45 v46 v47 v48 v49 v50 v51 v52 v53 v54 v55 v56 v57 v58 v59 v60 v61 v62 v63 v64 v65 v66 v67 v68 v69 v70 v71 v72 v73 v74 v75 v76 v77 v78 v79 v80 v81 v82 v83 v84 v85 v86 v87 v88 : Value}, K (puts a ((89, .bool (y1 || y2 || y3 || y4 || y5)) :: (88, v88) :: (87, v87) :: (86, v86) :: (85, v85) :: (84, v84) :: (83, v83) :: (82, v82) :: (81, v81) :: (80, v80) :: (79, v79) :: (78, v78) :: (77, v77) :: (76, v76) :: (75, v75) :: (74, v74) :: (73, v73) :: (72, v72) :: (71, v71) :: (70, v70) :: (69, v69) :: (68, v68) :: (67, v67) :: (66, v66) :: (65, v65) :: (64, v64) :: (63, v63) :: (62, v62) :: (61, v61) :: (60, v60) :: (59, v59) :: (58, v58) :: (57, v57) :: (56, v56) :: (55, v55) :: (54, v54) :: (53, v53) :: (52, v52) :: (51, v51) :: (50, v50) :: (49, v49) :: (48, v48) :: (47, v47) :: (46, v46) :: (45, v45) :: (44, v44) :: (43, v43) :: (42, v42) :: (41, v41) :: (40, v40) :: (39, v39) :: (38, v38) :: (37, v37) :: (36, v36) :: []))) :
    WQ Try.prog rright.ops4.toArray C K rright.ops4 a [] := by
  unfold rright.ops4
  cases y1
  rotate_left
  · (repeat (first
    | refine q_skip hF rfl rfl rfl rfl rfl rfl ?_
    | refine q_move hF rfl rfl rfl rfl rfl ?_
    | refine q_field hF rfl rfl rfl rfl rfl rfl ?_
    | refine q_loadc hF rfl rfl rfl hcell rfl rfl rfl ?_
    | refine q_notnot hF rfl rfl rfl rfl rfl ?_
    | refine q_pickT hF rfl rfl rfl rfl rfl rfl ?_
    | refine q_pickF hF rfl rfl rfl rfl rfl rfl ?_
    | refine q_neE hF rfl rfl rfl rfl rfl rfl hz ?_
    | refine q_neE hF rfl rfl rfl rfl rfl rfl hz1 ?_
    | refine q_eqE hF rfl rfl rfl rfl rfl rfl hz3 ?_
    | refine q_call hF rfl rfl rfl Try.func91 rfl rfl [.int .i64 a0] rfl rfl hcW ?_
    | refine q_call hF rfl rfl rfl Try.func92 rfl rfl [.int .i64 a0] rfl rfl hcO ?_
    | refine q_call hF rfl rfl rfl Try.func93 rfl rfl [.int .i64 a0] rfl rfl hcK ?_
    | refine q_call hF rfl rfl rfl Try.func90 rfl rfl [.bool _, .int .i64 a1] rfl rfl h1 ?_
    | refine q_call hF rfl rfl rfl Try.func90 rfl rfl [.bool _, .int .i64 a2] rfl rfl h2 ?_
    | refine q_call hF rfl rfl rfl Try.func90 rfl rfl [.bool _, .int .i64 a3] rfl rfl h3 ?_
    | refine q_call hF rfl rfl rfl Try.func90 rfl rfl [.bool _, .int .i64 a4] rfl rfl h4 ?_
    | refine q_call hF rfl rfl rfl Try.func90 rfl rfl [.bool _, .int .i64 a7] rfl rfl h5 ?_)); exact q_nil hK
  cases bb
  · cases y2
    rotate_left
    · (repeat (first
    | refine q_skip hF rfl rfl rfl rfl rfl rfl ?_
    | refine q_move hF rfl rfl rfl rfl rfl ?_
    | refine q_field hF rfl rfl rfl rfl rfl rfl ?_
    | refine q_loadc hF rfl rfl rfl hcell rfl rfl rfl ?_
    | refine q_notnot hF rfl rfl rfl rfl rfl ?_
    | refine q_pickT hF rfl rfl rfl rfl rfl rfl ?_
    | refine q_pickF hF rfl rfl rfl rfl rfl rfl ?_
    | refine q_neE hF rfl rfl rfl rfl rfl rfl hz ?_
    | refine q_neE hF rfl rfl rfl rfl rfl rfl hz1 ?_
    | refine q_eqE hF rfl rfl rfl rfl rfl rfl hz3 ?_
    | refine q_call hF rfl rfl rfl Try.func91 rfl rfl [.int .i64 a0] rfl rfl hcW ?_
    | refine q_call hF rfl rfl rfl Try.func92 rfl rfl [.int .i64 a0] rfl rfl hcO ?_
    | refine q_call hF rfl rfl rfl Try.func93 rfl rfl [.int .i64 a0] rfl rfl hcK ?_
    | refine q_call hF rfl rfl rfl Try.func90 rfl rfl [.bool _, .int .i64 a1] rfl rfl h1 ?_
    | refine q_call hF rfl rfl rfl Try.func90 rfl rfl [.bool _, .int .i64 a2] rfl rfl h2 ?_
    | refine q_call hF rfl rfl rfl Try.func90 rfl rfl [.bool _, .int .i64 a3] rfl rfl h3 ?_
    | refine q_call hF rfl rfl rfl Try.func90 rfl rfl [.bool _, .int .i64 a4] rfl rfl h4 ?_
    | refine q_call hF rfl rfl rfl Try.func90 rfl rfl [.bool _, .int .i64 a7] rfl rfl h5 ?_)); exact q_nil hK
    cases y3
    rotate_left
    · (repeat (first
    | refine q_skip hF rfl rfl rfl rfl rfl rfl ?_
    | refine q_move hF rfl rfl rfl rfl rfl ?_
    | refine q_field hF rfl rfl rfl rfl rfl rfl ?_
    | refine q_loadc hF rfl rfl rfl hcell rfl rfl rfl ?_
    | refine q_notnot hF rfl rfl rfl rfl rfl ?_
    | refine q_pickT hF rfl rfl rfl rfl rfl rfl ?_
    | refine q_pickF hF rfl rfl rfl rfl rfl rfl ?_
    | refine q_neE hF rfl rfl rfl rfl rfl rfl hz ?_
    | refine q_neE hF rfl rfl rfl rfl rfl rfl hz1 ?_
    | refine q_eqE hF rfl rfl rfl rfl rfl rfl hz3 ?_
    | refine q_call hF rfl rfl rfl Try.func91 rfl rfl [.int .i64 a0] rfl rfl hcW ?_
    | refine q_call hF rfl rfl rfl Try.func92 rfl rfl [.int .i64 a0] rfl rfl hcO ?_
    | refine q_call hF rfl rfl rfl Try.func93 rfl rfl [.int .i64 a0] rfl rfl hcK ?_
    | refine q_call hF rfl rfl rfl Try.func90 rfl rfl [.bool _, .int .i64 a1] rfl rfl h1 ?_
    | refine q_call hF rfl rfl rfl Try.func90 rfl rfl [.bool _, .int .i64 a2] rfl rfl h2 ?_
    | refine q_call hF rfl rfl rfl Try.func90 rfl rfl [.bool _, .int .i64 a3] rfl rfl h3 ?_
    | refine q_call hF rfl rfl rfl Try.func90 rfl rfl [.bool _, .int .i64 a4] rfl rfl h4 ?_
    | refine q_call hF rfl rfl rfl Try.func90 rfl rfl [.bool _, .int .i64 a7] rfl rfl h5 ?_)); exact q_nil hK
    cases y4
    rotate_left
    · (repeat (first
    | refine q_skip hF rfl rfl rfl rfl rfl rfl ?_
    | refine q_move hF rfl rfl rfl rfl rfl ?_
    | refine q_field hF rfl rfl rfl rfl rfl rfl ?_
    | refine q_loadc hF rfl rfl rfl hcell rfl rfl rfl ?_
    | refine q_notnot hF rfl rfl rfl rfl rfl ?_
    | refine q_pickT hF rfl rfl rfl rfl rfl rfl ?_
    | refine q_pickF hF rfl rfl rfl rfl rfl rfl ?_
    | refine q_neE hF rfl rfl rfl rfl rfl rfl hz ?_
    | refine q_neE hF rfl rfl rfl rfl rfl rfl hz1 ?_
    | refine q_eqE hF rfl rfl rfl rfl rfl rfl hz3 ?_
    | refine q_call hF rfl rfl rfl Try.func91 rfl rfl [.int .i64 a0] rfl rfl hcW ?_
    | refine q_call hF rfl rfl rfl Try.func92 rfl rfl [.int .i64 a0] rfl rfl hcO ?_
    | refine q_call hF rfl rfl rfl Try.func93 rfl rfl [.int .i64 a0] rfl rfl hcK ?_
    | refine q_call hF rfl rfl rfl Try.func90 rfl rfl [.bool _, .int .i64 a1] rfl rfl h1 ?_
    | refine q_call hF rfl rfl rfl Try.func90 rfl rfl [.bool _, .int .i64 a2] rfl rfl h2 ?_
    | refine q_call hF rfl rfl rfl Try.func90 rfl rfl [.bool _, .int .i64 a3] rfl rfl h3 ?_
    | refine q_call hF rfl rfl rfl Try.func90 rfl rfl [.bool _, .int .i64 a4] rfl rfl h4 ?_
    | refine q_call hF rfl rfl rfl Try.func90 rfl rfl [.bool _, .int .i64 a7] rfl rfl h5 ?_)); exact q_nil hK
    · (repeat (first
    | refine q_skip hF rfl rfl rfl rfl rfl rfl ?_
    | refine q_move hF rfl rfl rfl rfl rfl ?_
    | refine q_field hF rfl rfl rfl rfl rfl rfl ?_
    | refine q_loadc hF rfl rfl rfl hcell rfl rfl rfl ?_
    | refine q_notnot hF rfl rfl rfl rfl rfl ?_
    | refine q_pickT hF rfl rfl rfl rfl rfl rfl ?_
    | refine q_pickF hF rfl rfl rfl rfl rfl rfl ?_
    | refine q_neE hF rfl rfl rfl rfl rfl rfl hz ?_
    | refine q_neE hF rfl rfl rfl rfl rfl rfl hz1 ?_
    | refine q_eqE hF rfl rfl rfl rfl rfl rfl hz3 ?_
    | refine q_call hF rfl rfl rfl Try.func91 rfl rfl [.int .i64 a0] rfl rfl hcW ?_
    | refine q_call hF rfl rfl rfl Try.func92 rfl rfl [.int .i64 a0] rfl rfl hcO ?_
    | refine q_call hF rfl rfl rfl Try.func93 rfl rfl [.int .i64 a0] rfl rfl hcK ?_
    | refine q_call hF rfl rfl rfl Try.func90 rfl rfl [.bool _, .int .i64 a1] rfl rfl h1 ?_
    | refine q_call hF rfl rfl rfl Try.func90 rfl rfl [.bool _, .int .i64 a2] rfl rfl h2 ?_
    | refine q_call hF rfl rfl rfl Try.func90 rfl rfl [.bool _, .int .i64 a3] rfl rfl h3 ?_
    | refine q_call hF rfl rfl rfl Try.func90 rfl rfl [.bool _, .int .i64 a4] rfl rfl h4 ?_
    | refine q_call hF rfl rfl rfl Try.func90 rfl rfl [.bool _, .int .i64 a7] rfl rfl h5 ?_)); exact q_nil hK
  · cases y2
    rotate_left
    · (repeat (first
    | refine q_skip hF rfl rfl rfl rfl rfl rfl ?_
    | refine q_move hF rfl rfl rfl rfl rfl ?_
    | refine q_field hF rfl rfl rfl rfl rfl rfl ?_
    | refine q_loadc hF rfl rfl rfl hcell rfl rfl rfl ?_
    | refine q_notnot hF rfl rfl rfl rfl rfl ?_
    | refine q_pickT hF rfl rfl rfl rfl rfl rfl ?_
    | refine q_pickF hF rfl rfl rfl rfl rfl rfl ?_
    | refine q_neE hF rfl rfl rfl rfl rfl rfl hz ?_
    | refine q_neE hF rfl rfl rfl rfl rfl rfl hz1 ?_
    | refine q_eqE hF rfl rfl rfl rfl rfl rfl hz3 ?_
    | refine q_call hF rfl rfl rfl Try.func91 rfl rfl [.int .i64 a0] rfl rfl hcW ?_
    | refine q_call hF rfl rfl rfl Try.func92 rfl rfl [.int .i64 a0] rfl rfl hcO ?_
    | refine q_call hF rfl rfl rfl Try.func93 rfl rfl [.int .i64 a0] rfl rfl hcK ?_
    | refine q_call hF rfl rfl rfl Try.func90 rfl rfl [.bool _, .int .i64 a1] rfl rfl h1 ?_
    | refine q_call hF rfl rfl rfl Try.func90 rfl rfl [.bool _, .int .i64 a2] rfl rfl h2 ?_
    | refine q_call hF rfl rfl rfl Try.func90 rfl rfl [.bool _, .int .i64 a3] rfl rfl h3 ?_
    | refine q_call hF rfl rfl rfl Try.func90 rfl rfl [.bool _, .int .i64 a4] rfl rfl h4 ?_
    | refine q_call hF rfl rfl rfl Try.func90 rfl rfl [.bool _, .int .i64 a7] rfl rfl h5 ?_)); exact q_nil hK
    cases z45
    all_goals
      cases y3
      rotate_left
      · (repeat (first
    | refine q_skip hF rfl rfl rfl rfl rfl rfl ?_
    | refine q_move hF rfl rfl rfl rfl rfl ?_
    | refine q_field hF rfl rfl rfl rfl rfl rfl ?_
    | refine q_loadc hF rfl rfl rfl hcell rfl rfl rfl ?_
    | refine q_notnot hF rfl rfl rfl rfl rfl ?_
    | refine q_pickT hF rfl rfl rfl rfl rfl rfl ?_
    | refine q_pickF hF rfl rfl rfl rfl rfl rfl ?_
    | refine q_neE hF rfl rfl rfl rfl rfl rfl hz ?_
    | refine q_neE hF rfl rfl rfl rfl rfl rfl hz1 ?_
    | refine q_eqE hF rfl rfl rfl rfl rfl rfl hz3 ?_
    | refine q_call hF rfl rfl rfl Try.func91 rfl rfl [.int .i64 a0] rfl rfl hcW ?_
    | refine q_call hF rfl rfl rfl Try.func92 rfl rfl [.int .i64 a0] rfl rfl hcO ?_
    | refine q_call hF rfl rfl rfl Try.func93 rfl rfl [.int .i64 a0] rfl rfl hcK ?_
    | refine q_call hF rfl rfl rfl Try.func90 rfl rfl [.bool _, .int .i64 a1] rfl rfl h1 ?_
    | refine q_call hF rfl rfl rfl Try.func90 rfl rfl [.bool _, .int .i64 a2] rfl rfl h2 ?_
    | refine q_call hF rfl rfl rfl Try.func90 rfl rfl [.bool _, .int .i64 a3] rfl rfl h3 ?_
    | refine q_call hF rfl rfl rfl Try.func90 rfl rfl [.bool _, .int .i64 a4] rfl rfl h4 ?_
    | refine q_call hF rfl rfl rfl Try.func90 rfl rfl [.bool _, .int .i64 a7] rfl rfl h5 ?_)); exact q_nil hK
      cases y4
      rotate_left
      · (repeat (first
    | refine q_skip hF rfl rfl rfl rfl rfl rfl ?_
    | refine q_move hF rfl rfl rfl rfl rfl ?_
    | refine q_field hF rfl rfl rfl rfl rfl rfl ?_
    | refine q_loadc hF rfl rfl rfl hcell rfl rfl rfl ?_
    | refine q_notnot hF rfl rfl rfl rfl rfl ?_
    | refine q_pickT hF rfl rfl rfl rfl rfl rfl ?_
    | refine q_pickF hF rfl rfl rfl rfl rfl rfl ?_
    | refine q_neE hF rfl rfl rfl rfl rfl rfl hz ?_
    | refine q_neE hF rfl rfl rfl rfl rfl rfl hz1 ?_
    | refine q_eqE hF rfl rfl rfl rfl rfl rfl hz3 ?_
    | refine q_call hF rfl rfl rfl Try.func91 rfl rfl [.int .i64 a0] rfl rfl hcW ?_
    | refine q_call hF rfl rfl rfl Try.func92 rfl rfl [.int .i64 a0] rfl rfl hcO ?_
    | refine q_call hF rfl rfl rfl Try.func93 rfl rfl [.int .i64 a0] rfl rfl hcK ?_
    | refine q_call hF rfl rfl rfl Try.func90 rfl rfl [.bool _, .int .i64 a1] rfl rfl h1 ?_
    | refine q_call hF rfl rfl rfl Try.func90 rfl rfl [.bool _, .int .i64 a2] rfl rfl h2 ?_
    | refine q_call hF rfl rfl rfl Try.func90 rfl rfl [.bool _, .int .i64 a3] rfl rfl h3 ?_
    | refine q_call hF rfl rfl rfl Try.func90 rfl rfl [.bool _, .int .i64 a4] rfl rfl h4 ?_
    | refine q_call hF rfl rfl rfl Try.func90 rfl rfl [.bool _, .int .i64 a7] rfl rfl h5 ?_)); exact q_nil hK
      · (repeat (first
    | refine q_skip hF rfl rfl rfl rfl rfl rfl ?_
    | refine q_move hF rfl rfl rfl rfl rfl ?_
    | refine q_field hF rfl rfl rfl rfl rfl rfl ?_
    | refine q_loadc hF rfl rfl rfl hcell rfl rfl rfl ?_
    | refine q_notnot hF rfl rfl rfl rfl rfl ?_
    | refine q_pickT hF rfl rfl rfl rfl rfl rfl ?_
    | refine q_pickF hF rfl rfl rfl rfl rfl rfl ?_
    | refine q_neE hF rfl rfl rfl rfl rfl rfl hz ?_
    | refine q_neE hF rfl rfl rfl rfl rfl rfl hz1 ?_
    | refine q_eqE hF rfl rfl rfl rfl rfl rfl hz3 ?_
    | refine q_call hF rfl rfl rfl Try.func91 rfl rfl [.int .i64 a0] rfl rfl hcW ?_
    | refine q_call hF rfl rfl rfl Try.func92 rfl rfl [.int .i64 a0] rfl rfl hcO ?_
    | refine q_call hF rfl rfl rfl Try.func93 rfl rfl [.int .i64 a0] rfl rfl hcK ?_
    | refine q_call hF rfl rfl rfl Try.func90 rfl rfl [.bool _, .int .i64 a1] rfl rfl h1 ?_
    | refine q_call hF rfl rfl rfl Try.func90 rfl rfl [.bool _, .int .i64 a2] rfl rfl h2 ?_
    | refine q_call hF rfl rfl rfl Try.func90 rfl rfl [.bool _, .int .i64 a3] rfl rfl h3 ?_
    | refine q_call hF rfl rfl rfl Try.func90 rfl rfl [.bool _, .int .i64 a4] rfl rfl h4 ?_
    | refine q_call hF rfl rfl rfl Try.func90 rfl rfl [.bool _, .int .i64 a7] rfl rfl h5 ?_)); exact q_nil hK
set_option maxHeartbeats 40000000 in
set_option maxRecDepth 100000 in
theorem balustraderef15_Right.calls (k : Nat) (a0_0 : Int) (a0_1 : Int) (a0_2 : Int) (a0_3 : Int) (a0_4 : Int) (a0_5 : Int) (a0_6 : Int) (a0_7 : Int) (A0_8 : Option Addr) (c0_8 : Nat) (l0_8 : List Int) (r : Bool) (w : World) (hr0_8 : Kd.C (Kd.int .i64) w A0_8 l0_8.length l0_8) (hc0_8 : l0_8.length ≤ c0_8) (h : balustraderef15_Right.f k a0_0 a0_1 a0_2 a0_3 a0_4 a0_5 a0_6 a0_7 l0_8 = some r) :
    Calls Try.prog 76 #[.agg #[.int .i64 a0_0, .int .i64 a0_1, .int .i64 a0_2, .int .i64 a0_3, .int .i64 a0_4, .int .i64 a0_5, .int .i64 a0_6, .int .i64 a0_7, .slice A0_8 l0_8.length c0_8]] w fun e w' => e = .returned (.bool r) ∧ Below w.heap.size w w' := by
  have HR8 := Aside0.mk hr0_8
  have HF := Aside0.mk h
  have p8 : l0_8.length ≤ 9223372036854775807 := hr0_8.2.1
  clear hr0_8 hc0_8 h
  go_enter Try.func76, Try.ntmps76
  go_upto_region 1 with (first
    | ((with_reducible refine gate_dst (N := 1) rfl ?_); refine box_event ?hg (N := 1) ?hd (cs := #[.int .i64 a0_0, .int .i64 a0_1, .int .i64 a0_2, .int .i64 a0_3, .int .i64 a0_4, .int .i64 a0_5, .int .i64 a0_6, .int .i64 a0_7, .slice A0_8 l0_8.length c0_8]) (t := 50) ?hr ?_; (case hd => rfl); (case hg => rfl); (case hr => first | (go_simp; done) | (go_simp; rfl)); intro g0 hg0 W1 hb1 hB1
       have Hb1 := Aside0.mk hb1; have HB1 := Aside0.mk hB1; clear hg0 hb1 hB1))
  have e0 : W1.cell? ⟨g0, 0, none⟩ = some (.int .i64 a0_0) := (blk_cell Hb1.out 0).trans rfl
  have hf := HF.out
  rw [balustraderef15_Right.f] at hf
  by_cases h1 : a0_0 < 3
  · rw [if_pos h1] at hf
    obtain rfl := Option.some.inj hf
    have h1b : decide (a0_0 < 3) = true := decide_eq_true h1
    clear hf HF
    go_wp2
    go_ret
    exact ⟨rfl, HB1.out⟩
  rw [if_neg h1] at hf
  have h1b : decide (a0_0 < 3) = false := decide_eq_false h1
  by_cases h2 : a0_0 > 45
  · rw [if_pos h2] at hf
    obtain rfl := Option.some.inj hf
    have h2b : decide (a0_0 > 45) = true := decide_eq_true h2
    clear hf HF
    go_wp2
    go_ret
    exact ⟨rfl, HB1.out⟩
  rw [if_neg h2] at hf
  have h2b : decide (a0_0 > 45) = false := decide_eq_false h2
  by_cases h3 : a0_0 > 16 ∧ a0_0 < 20
  · rw [if_pos h3] at hf
    obtain rfl := Option.some.inj hf
    have h3b : decide (a0_0 > 16) = true := decide_eq_true h3.1
    have h3c : decide (a0_0 < 20) = true := decide_eq_true h3.2
    clear hf HF
    go_wp2
    go_ret
    exact ⟨rfl, HB1.out⟩
  rw [if_neg h3] at hf
  obtain ⟨t, ht, hf1⟩ := Option.bind_eq_some_iff.1 hf
  obtain ⟨o, ho, hf2⟩ := Option.bind_eq_some_iff.1 hf1
  obtain ⟨wr_, hw, hf3⟩ := Option.bind_eq_some_iff.1 hf2
  obtain ⟨ck, hck, hf4⟩ := Option.bind_eq_some_iff.1 hf3
  have HFT := Aside0.mk ht
  have HFO := Aside0.mk ho
  have HFW := Aside0.mk hw
  have HFC := Aside0.mk hck
  have HFR := Aside0.mk (Option.some.inj hf4)
  clear hf hf1 hf2 hf3 hf4 ht ho hw hck HF
  go_cut [22] (fun v22 wc => v22 = .bool false ∧ wc = W1)
  case first =>
    as_aux_lemma =>
      by_cases h4 : a0_0 > 16
      · have h4b : decide (a0_0 > 16) = true := decide_eq_true h4
        have h5b : decide (a0_0 < 20) = false := decide_eq_false (fun h => h3 ⟨h4, h⟩)
        go_wp2
        go_meet
        case rel => exact ⟨rfl, rfl⟩
      · have h4b : decide (a0_0 > 16) = false := decide_eq_false h4
        go_wp2
        go_meet
        case rel => exact ⟨rfl, rfl⟩
  case rest =>
  obtain ⟨rfl, hwc⟩ := hcut
  have hwc' := hwc.symm
  subst hwc'
  go_upto_region 3 with (fail)
  go_cut [3] (fun v3 wc => v3 = .bool (t || a0_0 == 30 || a0_0 == 45) ∧ Aside0 (Below W1.heap.size W1 wc))
  case first =>
    as_aux_lemma =>
      cases t with
      | true =>
        go_wp2_with (first
          | (go_at_call 89; refine (balustraderef15_two.calls k a0_0 true _ HFT.out).mono ?_; rintro e W2 ⟨rfl, hB2⟩
             have e2 : W2.cell? ⟨g0, 0, none⟩ = some (.int .i64 a0_0) := (blk_cell (blk_of_below hB2 (blk_lt Hb1.out) Hb1.out) 0).trans rfl
             have HB2 := Aside0.mk hB2; clear hB2))
        go_meet
        case rel => exact ⟨rfl, HB2⟩
      | false =>
        obtain ⟨b30, q30⟩ : ∃ b30 : Bool, (a0_0 == 30) = b30 := ⟨_, rfl⟩
        cases b30 with
        | true =>
          go_wp2_with (first
            | (go_at_call 89; refine (balustraderef15_two.calls k a0_0 false _ HFT.out).mono ?_; rintro e W2 ⟨rfl, hB2⟩
               have e2 : W2.cell? ⟨g0, 0, none⟩ = some (.int .i64 a0_0) := (blk_cell (blk_of_below hB2 (blk_lt Hb1.out) Hb1.out) 0).trans rfl
               have HB2 := Aside0.mk hB2; clear hB2))
          go_meet
          case rel => exact ⟨by rw [q30]; rfl, HB2⟩
        | false =>
          go_wp2_with (first
            | (go_at_call 89; refine (balustraderef15_two.calls k a0_0 false _ HFT.out).mono ?_; rintro e W2 ⟨rfl, hB2⟩
               have e2 : W2.cell? ⟨g0, 0, none⟩ = some (.int .i64 a0_0) := (blk_cell (blk_of_below hB2 (blk_lt Hb1.out) Hb1.out) 0).trans rfl
               have HB2 := Aside0.mk hB2; clear hB2))
          go_meet
          case rel => exact ⟨by rw [q30]; rfl, HB2⟩
  case rest =>
  obtain ⟨rfl, hB2⟩ := hcut
  have hb2 := blk_of_below hB2.out (blk_lt Hb1.out) Hb1.out
  have Hb2 := Aside0.mk hb2
  have HB2 := Aside0.mk (HB1.out.trans (hB2.out.mono (B' := w.heap.size) HB1.out.size))
  have f0 : wc.cell? ⟨g0, 0, none⟩ = some (.int .i64 a0_0) := (blk_cell hb2 0).trans rfl
  have f1 : wc.cell? ⟨g0, 1, none⟩ = some (.int .i64 a0_1) := (blk_cell hb2 1).trans rfl
  have f2 : wc.cell? ⟨g0, 2, none⟩ = some (.int .i64 a0_2) := (blk_cell hb2 2).trans rfl
  have f3 : wc.cell? ⟨g0, 3, none⟩ = some (.int .i64 a0_3) := (blk_cell hb2 3).trans rfl
  have f4 : wc.cell? ⟨g0, 4, none⟩ = some (.int .i64 a0_4) := (blk_cell hb2 4).trans rfl
  have f6 : wc.cell? ⟨g0, 6, none⟩ = some (.int .i64 a0_6) := (blk_cell hb2 6).trans rfl
  have f7 : wc.cell? ⟨g0, 7, none⟩ = some (.int .i64 a0_7) := (blk_cell hb2 7).trans rfl
  obtain ⟨bb, hbb⟩ : ∃ bb : Bool, bb = (t || a0_0 == 30 || a0_0 == 45) := ⟨_, rfl⟩
  have HFR2 := Aside0.mk (show (if rright.bad bb o wr_ ck a0_0 a0_1 a0_2 a0_3 a0_4 a0_6 a0_7 then false else if rright.args l0_8 then rright.last a0_0 a0_5 a0_6 l0_8.length else false) = r from by rw [hbb]; exact HFR.out)
  rw [← hbb]
  clear hB2 hb2 e0 HFT HFR hbb
  go_upto_region 4 with (fail)
  go_cut [89] (fun v89 wx => v89 = .bool (rright.bad bb o wr_ ck a0_0 a0_1 a0_2 a0_3 a0_4 a0_6 a0_7) ∧ Aside0 (Below wc.heap.size wc wx))
  case first =>
    as_aux_lemma =>
      obtain ⟨z45, hz⟩ : ∃ z45, (a0_0 != 45) = z45 := ⟨_, rfl⟩
      obtain ⟨z21, hz1⟩ : ∃ z21, (a0_6 != 21) = z21 := ⟨_, rfl⟩
      obtain ⟨z30, hz3⟩ : ∃ z30, (a0_0 == 30) = z30 := ⟨_, rfl⟩
      obtain ⟨y1, hy1⟩ : ∃ y1, rright.fit wr_ a0_1 = !y1 := ⟨!rright.fit wr_ a0_1, by simp⟩
      obtain ⟨y2, hy2⟩ : ∃ y2, rright.fit (bb || o) a0_2 = !y2 := ⟨!rright.fit (bb || o) a0_2, by simp⟩
      obtain ⟨y3, hy3⟩ : ∃ y3, rright.fit (bb && (z45 || z21)) a0_3 = !y3 := ⟨!rright.fit (bb && (z45 || z21)) a0_3, by simp⟩
      obtain ⟨y4, hy4⟩ : ∃ y4, rright.fit z30 a0_4 = !y4 := ⟨!rright.fit z30 a0_4, by simp⟩
      obtain ⟨y5, hy5⟩ : ∃ y5, rright.fit ck a0_7 = !y5 := ⟨!rright.fit ck a0_7, by simp⟩
      have hbad : rright.bad bb o wr_ ck a0_0 a0_1 a0_2 a0_3 a0_4 a0_6 a0_7 = (y1 || y2 || y3 || y4 || y5) := by simp only [rright.bad, hz, hz1, hz3, hy1, hy2, hy3, hy4, hy5, Bool.not_not]
      have HBAD := Aside0.mk hbad
      clear hbad HFR2
      have hcell : ∀ (i : Nat) (v : Value), lk [(0, Value.int .i64 a0_0), (1, .int .i64 a0_1), (2, .int .i64 a0_2), (3, .int .i64 a0_3), (4, .int .i64 a0_4), (6, .int .i64 a0_6), (7, .int .i64 a0_7)] i = some v → ∀ W, Below wc.heap.size wc W → W.cell? ⟨g0, i, none⟩ = some v := by
        intro i v hv W hW
        have hb := blk_of_below hW (blk_lt Hb2.out) Hb2.out
        simp only [lk] at hv
        repeat' split at hv
        all_goals first | contradiction | (subst_vars; injection hv with hv; subst hv; exact (blk_cell hb _).trans rfl)
      have hcW : ∀ W, Below wc.heap.size wc W → Calls Try.prog 91 #[.int .i64 a0_0] W fun e w' => e = .returned (.bool wr_) ∧ Below wc.heap.size wc w' :=
        fun W hW => (balustraderef15_Writes.calls a0_0 wr_ _ HFW.out).mono (fun _ _ h => ⟨h.1, hW.trans (h.2.below.mono (B' := wc.heap.size) hW.size)⟩)
      have hcO : ∀ W, Below wc.heap.size wc W → Calls Try.prog 92 #[.int .i64 a0_0] W fun e w' => e = .returned (.bool o) ∧ Below wc.heap.size wc w' :=
        fun W hW => (balustraderef15_one.calls k a0_0 o _ HFO.out).mono (fun _ _ h => ⟨h.1, hW.trans (h.2.mono (B' := wc.heap.size) hW.size)⟩)
      have hcK : ∀ W, Below wc.heap.size wc W → Calls Try.prog 93 #[.int .i64 a0_0] W fun e w' => e = .returned (.bool ck) ∧ Below wc.heap.size wc w' :=
        fun W hW => (balustraderef15_Check.calls a0_0 ck _ HFC.out).mono (fun _ _ h => ⟨h.1, hW.trans (h.2.below.mono (B' := wc.heap.size) hW.size)⟩)
      have hfit : ∀ b n y, rright.fit b n = !y → ∀ W, Below wc.heap.size wc W → Calls Try.prog 90 #[.bool b, .int .i64 n] W fun e w' => e = .returned (.bool (!y)) ∧ Below wc.heap.size wc w' :=
        fun b n y e W hW => (rright.fitsC b n W).mono (fun _ _ h => ⟨by rw [← e]; exact h.1, hW.trans (h.2.below.mono (B' := wc.heap.size) hW.size)⟩)
      refine q_region (C := fun W => Below wc.heap.size wc W) (by kernel_rfl) (by kernel_rfl) (Below.drew (Below.refl _ _)) ?_
      refine rright.reg4 (Fr.cons (Fr.cons (Fr.nil (N := 229) (by kernel_rfl)) (by decide) rfl) (by decide) rfl) hcell hz hz1 hz3 hcW hcO hcK (hfit _ _ _ hy1) (hfit _ _ _ hy2) (hfit _ _ _ hy3) (hfit _ _ _ hy4) (hfit _ _ _ hy5) ?_
      intros
      rename_i wx hwx
      clear hcell hcW hcO hcK hfit hy1 hy2 hy3 hy4 hy5 hz hz1 hz3
      simp only [puts]
      go_wp2
      go_meet
      case rel => exact ⟨by rw [HBAD.out], ⟨hwx⟩⟩
  case rest =>
  obtain ⟨rfl, hB3⟩ := hcut
  have HB3 := Aside0.mk (HB2.out.trans (hB3.out.mono (B' := w.heap.size) HB2.out.size))
  have hb3 := blk_of_below hB3.out (blk_lt Hb2.out) Hb2.out
  have g00 : wc.cell? ⟨g0, 0, none⟩ = some (.int .i64 a0_0) := (blk_cell hb3 0).trans rfl
  have g05 : wc.cell? ⟨g0, 5, none⟩ = some (.int .i64 a0_5) := (blk_cell hb3 5).trans rfl
  have g06 : wc.cell? ⟨g0, 6, none⟩ = some (.int .i64 a0_6) := (blk_cell hb3 6).trans rfl
  have g08 : wc.cell? ⟨g0, 8, none⟩ = some (.slice A0_8 l0_8.length c0_8) := (blk_cell hb3 8).trans rfl
  clear f0 f1 f2 f3 f4 f6 f7 hb3 hB3 hwc HB2 HB1 Hb1 Hb2 HFO HFW HFC h1b h2b
  obtain ⟨bd, hbd⟩ : ∃ bd, rright.bad bb o wr_ ck a0_0 a0_1 a0_2 a0_3 a0_4 a0_6 a0_7 = bd := ⟨_, rfl⟩
  have hfr := HFR2.out
  rw [hbd] at hfr
  rw [hbd]
  clear HFR2 hbd
  cases bd with
  | true =>
    simp only [if_true] at hfr
    subst hfr
    go_wp2
    go_ret
    exact ⟨rfl, HB3.out⟩
  | false =>
    rw [if_neg (by simp)] at hfr
    have HFR := Aside0.mk hfr
    have HRC := Aside0.mk (Kd.C_below HR8.out HB3.out)
    clear hfr HR8
    go_wp2
    go_loop [4] (fun v4 => ∃ k : Nat, v4 = .int .i64 k ∧ Aside0 (k ≤ l0_8.length) ∧ Aside0 (rright.args (l0_8.drop k) = rright.args l0_8)) (fun v4 => l0_8.length - (intOf v4).toNat)
    case atStart => exact ⟨0, rfl, ⟨Nat.zero_le _⟩, ⟨by rw [List.drop_zero]⟩⟩
    case round =>
      obtain ⟨k, rfl, Hk, Ha⟩ := hrel
      by_cases hlt : k < l0_8.length
      · obtain ⟨ad0, rfl, hx⟩ := Kd.at_int HRC.out (k : Int) (by omega) (by omega)
        rw [Int.toNat_natCast, show rd l0_8 (k : Int) = l0_8[k] from by simp [rd, List.getD, hlt]] at hx
        have ha := Ha.out
        rw [List.drop_eq_getElem_cons hlt, rright.args] at ha
        have q0 : (0 : Int) ≤ (k : Int) := by omega
        generalize l0_8[k] = q at *
        by_cases hq : q < 0
        · rw [if_pos hq] at ha
          have hfr := HFR.out
          rw [← ha, if_neg (by simp)] at hfr
          subst hfr
          have hqb : decide (q < 0) = true := decide_eq_true hq
          clear ha Ha
          go_wp2
          go_ret
          exact ⟨rfl, HB3.out⟩
        · rw [if_neg hq] at ha
          have hqb : decide (q < 0) = false := decide_eq_false hq
          have Ha2 := Aside0.mk ha
          clear ha Ha
          go_wp2
          go_round
          case rel => exact ⟨k + 1, by go_num, ⟨by omega⟩, Ha2⟩
          case measure => simp [intOf]; omega
      · have hkl : k = l0_8.length := by have := Hk.out; omega
        have ha := Ha.out
        rw [hkl, List.drop_length] at ha
        have hfr := HFR.out
        rw [← ha, show rright.args [] = true from rfl, if_pos rfl] at hfr
        have HL := Aside0.mk hfr
        clear ha Ha hfr HFR Hk HRC
        have hltb : decide (k < l0_8.length) = false := decide_eq_false hlt
        by_cases h39 : a0_0 = 39
        · as_aux_lemma =>
            have b39 : (a0_0 == 39) = true := beq_iff_eq.2 h39
            obtain ⟨x1, ex1⟩ : ∃ x : Bool, decide (a0_5 ≥ 0) = x := ⟨_, rfl⟩
            obtain ⟨x2, ex2⟩ : ∃ x : Bool, (a0_6 == 0) = x := ⟨_, rfl⟩
            obtain ⟨x4, ix4⟩ : ∃ x : Bool, decide ((l0_8.length : Int) ≤ 8) = x := ⟨_, rfl⟩
            have ex4 : decide (l0_8.length ≤ 8) = x4 := by rw [← ix4]; exact decide_eq_decide.2 (by omega)
            have hr : r = (x1 && x2 && x4) := by rw [← HL.out, rright.last, if_pos h39, ex1, ex2, ex4]
            have HR := Aside0.mk hr
            clear hr HL ex4
            cases x1 <;> cases x2 <;> (go_wp2; go_ret; exact ⟨by rw [HR.out]; first | rfl | (simp; done), HB3.out⟩)
        have b39 : (a0_0 == 39) = false := beq_eq_false_iff_ne.2 h39
        by_cases h44 : a0_0 = 44
        · as_aux_lemma =>
            have b44 : (a0_0 == 44) = true := beq_iff_eq.2 h44
            obtain ⟨x3, ex3⟩ : ∃ x : Bool, (a0_5 == 0) = x := ⟨_, rfl⟩
            obtain ⟨x2, ex2⟩ : ∃ x : Bool, (a0_6 == 0) = x := ⟨_, rfl⟩
            obtain ⟨x4, ix4⟩ : ∃ x : Bool, decide ((l0_8.length : Int) ≥ 1) = x := ⟨_, rfl⟩
            have ex4 : decide (l0_8.length ≥ 1) = x4 := by rw [← ix4]; exact decide_eq_decide.2 (by omega)
            have hr : r = (x3 && x2 && x4) := by rw [← HL.out, rright.last, if_neg h39, if_pos h44, ex3, ex2, ex4]
            have HR := Aside0.mk hr
            clear hr HL ex4
            cases x3 <;> cases x2 <;> (go_wp2; go_ret; exact ⟨by rw [HR.out]; first | rfl | (simp; done), HB3.out⟩)
        have b44 : (a0_0 == 44) = false := beq_eq_false_iff_ne.2 h44
        by_cases h45 : a0_0 = 45
        · as_aux_lemma =>
            have b45 : (a0_0 == 45) = true := beq_iff_eq.2 h45
            obtain ⟨x3, ex3⟩ : ∃ x : Bool, (a0_5 == 0) = x := ⟨_, rfl⟩
            obtain ⟨x5, ex5⟩ : ∃ x : Bool, decide (a0_6 ≥ 3) = x := ⟨_, rfl⟩
            obtain ⟨x6, ex6⟩ : ∃ x : Bool, decide (a0_6 ≤ 8) = x := ⟨_, rfl⟩
            obtain ⟨x7, ex7⟩ : ∃ x : Bool, (a0_6 == 20) = x := ⟨_, rfl⟩
            obtain ⟨x8, ex8⟩ : ∃ x : Bool, (a0_6 == 21) = x := ⟨_, rfl⟩
            obtain ⟨x4, ix4⟩ : ∃ x : Bool, ((l0_8.length : Int) == 0) = x := ⟨_, rfl⟩
            have ex4 : (l0_8.length == 0) = x4 := by rw [← ix4]; exact Bool.eq_iff_iff.2 (by simp)
            have hr : r = (x3 && (x5 && x6 || x7 || x8) && x4) := by rw [← HL.out, rright.last, if_neg h39, if_neg h44, if_pos h45, ex3, ex5, ex6, ex7, ex8, ex4]
            have HR := Aside0.mk hr
            clear hr HL ex4
            cases x3 <;> cases x5 <;> cases x6 <;> cases x7 <;> cases x8 <;> (go_wp2; go_ret; exact ⟨by rw [HR.out]; first | rfl | (simp; done), HB3.out⟩)
        have b45 : (a0_0 == 45) = false := beq_eq_false_iff_ne.2 h45
        by_cases hl0 : l0_8.length > 0
        · as_aux_lemma =>
            have hr : r = false := by rw [← HL.out]; rw [rright.last, if_neg h39, if_neg h44, if_neg h45, if_pos hl0]
            have HR := Aside0.mk hr
            clear hr HL
            have hlb : decide (l0_8.length > 0) = true := decide_eq_true hl0
            go_wp2
            go_ret
            exact ⟨by rw [HR.out]; first | done | rfl, HB3.out⟩
        have hlb : decide (l0_8.length > 0) = false := decide_eq_false hl0
        by_cases h20 : a0_0 = 20
        · as_aux_lemma =>
            have b20 : (a0_0 == 20) = true := beq_iff_eq.2 h20
            obtain ⟨x2, ex2⟩ : ∃ x : Bool, (a0_6 == 0) = x := ⟨_, rfl⟩
            have hr : r = (x2) := by rw [← HL.out, rright.last, if_neg h39, if_neg h44, if_neg h45, if_neg hl0, if_pos h20, ex2]
            have HR := Aside0.mk hr
            clear hr HL
            (go_wp2; go_ret; exact ⟨by rw [HR.out]; first | rfl | (simp; done), HB3.out⟩)
        have b20 : (a0_0 == 20) = false := beq_eq_false_iff_ne.2 h20
        by_cases h21 : a0_0 = 21
        · as_aux_lemma =>
            have b21 : (a0_0 == 21) = true := beq_iff_eq.2 h21
            obtain ⟨x2, ex2⟩ : ∃ x : Bool, (a0_6 == 0) = x := ⟨_, rfl⟩
            obtain ⟨x3, ex3⟩ : ∃ x : Bool, (a0_5 == 0) = x := ⟨_, rfl⟩
            obtain ⟨x4, ex4⟩ : ∃ x : Bool, (a0_5 == 1) = x := ⟨_, rfl⟩
            have hr : r = (x2 && (x3 || x4)) := by rw [← HL.out, rright.last, if_neg h39, if_neg h44, if_neg h45, if_neg hl0, if_neg h20, if_pos h21, ex2, ex3, ex4]
            have HR := Aside0.mk hr
            clear hr HL
            cases x2 <;> cases x3 <;> (go_wp2; go_ret; exact ⟨by rw [HR.out]; first | rfl | (simp; done), HB3.out⟩)
        have b21 : (a0_0 == 21) = false := beq_eq_false_iff_ne.2 h21
        by_cases h41 : a0_0 = 41
        · as_aux_lemma =>
            have b41 : (a0_0 == 41) = true := beq_iff_eq.2 h41
            obtain ⟨x2, ex2⟩ : ∃ x : Bool, (a0_6 == 0) = x := ⟨_, rfl⟩
            obtain ⟨x1, ex1⟩ : ∃ x : Bool, decide (a0_5 ≥ 0) = x := ⟨_, rfl⟩
            have hr : r = (x2 && x1) := by rw [← HL.out, rright.last, if_neg h39, if_neg h44, if_neg h45, if_neg hl0, if_neg h20, if_neg h21, if_pos h41, ex2, ex1]
            have HR := Aside0.mk hr
            clear hr HL
            cases x2 <;> (go_wp2; go_ret; exact ⟨by rw [HR.out]; first | rfl | (simp; done), HB3.out⟩)
        have b41 : (a0_0 == 41) = false := beq_eq_false_iff_ne.2 h41
        by_cases h42 : a0_0 = 42
        · as_aux_lemma =>
            have b42 : (a0_0 == 42) = true := beq_iff_eq.2 h42
            obtain ⟨x5, ex5⟩ : ∃ x : Bool, decide (a0_6 ≥ 0) = x := ⟨_, rfl⟩
            obtain ⟨x1, ex1⟩ : ∃ x : Bool, decide (a0_5 ≥ 0) = x := ⟨_, rfl⟩
            obtain ⟨x4, ex4⟩ : ∃ x : Bool, (a0_6 != a0_5) = x := ⟨_, rfl⟩
            have hr : r = (x5 && x1 && x4) := by rw [← HL.out, rright.last, if_neg h39, if_neg h44, if_neg h45, if_neg hl0, if_neg h20, if_neg h21, if_neg h41, if_pos h42, ex5, ex1, ex4]
            have HR := Aside0.mk hr
            clear hr HL
            cases x5 <;> cases x1 <;> (go_wp2; go_ret; exact ⟨by rw [HR.out]; first | rfl | (simp; done), HB3.out⟩)
        have b42 : (a0_0 == 42) = false := beq_eq_false_iff_ne.2 h42
        obtain ⟨x3, ex3⟩ : ∃ x : Bool, (a0_5 == 0) = x := ⟨_, rfl⟩
        obtain ⟨x2, ex2⟩ : ∃ x : Bool, (a0_6 == 0) = x := ⟨_, rfl⟩
        have hr : r = (x3 && x2) := by rw [← HL.out, rright.last, if_neg h39, if_neg h44, if_neg h45, if_neg hl0, if_neg h20, if_neg h21, if_neg h41, if_neg h42, ex3, ex2]
        have HR := Aside0.mk hr
        clear hr HL
        cases x3 <;> (go_wp2; go_ret; exact ⟨by rw [HR.out]; first | rfl | (simp; done), HB3.out⟩)
end Go.Proofs.Ytjibojmbhbaneaa.PRm
