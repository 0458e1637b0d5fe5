/- Histories: the sort's parts. -/
import Derived.Test.YtajppkjbmiemhaaOM
import Derived.Test.YtajppkjbmiemhaaOA
namespace Go.Proofs
set_option linter.unusedVariables false
set_option linter.unusedSimpArgs false
set_option linter.unusedSectionVars false
open Go Go.SX Go.RowKit Go.Hist

theorem callable (n : Nat) {fn : Func} (h : Try.prog.funcs[n]? = some fn) (h2 : (fn.name == "runtime.NumGoroutine") = false := by kernel_rfl) (h3 : fn.body.isNone = false := by kernel_rfl) : Callable Try.prog n := ⟨fn, h, h2, h3⟩

theorem HpRep_below {H : Hp} {w w' : World} (h : HpRep H w) (hb : Below w.heap.size w w') : HpRep H w' := fun i b m o hi => SO.rep_same (h i b m o hi) (hb.block b (SO.rep_lt (h i b m o hi)))

theorem HpAll.imm {F : Fr} {w : World} : ∀ {H : Hp}, HpAll F w H → HpAll F w (H.map fun e => (e.1, false, e.2.2))
  | [], _ => trivial
  | (b, m, o) :: H, h => ⟨⟨h.1.1, by simp, fun e he => by
    obtain ⟨e', he', rfl⟩ := List.mem_map.1 he
    exact h.1.2.2 e' he'⟩, HpAll.imm h.2⟩
theorem HpAll.imm1 {F : Fr} {w : World} {x : Nat × Bool × SO} {H : Hp} (h : HpAll F w (x :: H)) : HpAll F w (x :: H.map fun e => (e.1, false, e.2.2)) :=
  ⟨⟨h.1.1, h.1.2.1, fun e he => by
    obtain ⟨e', he', rfl⟩ := List.mem_map.1 he
    exact h.1.2.2 e' he'⟩, HpAll.imm h.2⟩

theorem mutB_lt {F : Fr} {w : World} : ∀ {H : Hp}, HpAll F w H → ∀ x ∈ mutB H, x < w.heap.size
  | [], _, x, hx => by simp [mutB] at hx
  | (b, m, o) :: H, h, x, hx => by
    simp only [mutB, List.filter_cons] at hx
    split at hx
    · rcases List.mem_cons.1 hx with rfl | hx
      · exact SO.rep_lt h.1.1
      · exact mutB_lt h.2 x hx
    · exact mutB_lt h.2 x hx

/-- A call that tells something, and changes nothing that was there. -/
def Ret (w : World) (v : SV) (e : Ending) (w' : World) : Prop := e = .returned (den v) ∧ Below w.heap.size w w'
theorem ret_dec {b : Bool} {p : Prop} [Decidable p] (h : b = true ↔ p) : Ending.returned (den (.v (.bool b))) = Ending.returned (den (.v (.bool (decide p)))) := by
  simp only [den]
  congr 2
  rw [Bool.eq_iff_iff, h]
  simp


def cmpI (x y : Int) : Int := if x < y then -1 else if y < x then 1 else 0
theorem cmpI_lt {x y : Int} : cmpI x y < 0 ↔ x < y := by unfold cmpI; split <;> (try split) <;> omega
theorem cmpI_eq {x y : Int} : cmpI x y = 0 ↔ x = y := by unfold cmpI; split <;> (try split) <;> omega

set_option maxRecDepth 100000 in
set_option maxHeartbeats 8000000 in
/-- isNaN. -/
theorem nan_ok (w : World) (x : Int) : Calls Try.prog 23 (denL [.v (.int .i64 x)]).toArray w (Ret w (.v (.bool false))) := by
  refine enter (F := frame0 w) Try.func23 rfl [.v (.int .i64 x)] [] (by simp [Try.f23]) trivial (keeps0 w) fun a hr => ?_
  refine seg cfg23_ok mixed PanicFree.body 1000 [] [] hr (by first | trivial | exact HpRep.nil | assumption) (by kernel_rfl) fun s_ hs_ => ?_
  simp (maxSteps := 10000000) [SX.vc, SX.stop, SX.contS, SX.contB, SX.contW, SX.contR, SX.contD, SX.sxStep, SX.stepPure, SX.stepNew, SX.stepStore, SX.stepKeep, SX.guardIx, SX.evOp, SX.opd, SX.opds, SX.optOpd, SX.look, SX.putS, SX.gobs, SX.AllP, SX.leave, SX.lookC, SX.lookB, SX.lookT, SX.lookN, SX.findK, SX.evBuiltin, SX.ints, SX.foldI, SX.evBin, SX.evInt, SX.evStr, SX.evEq, SX.arith, SX.evLoad, SX.shapeUp, SX.evFieldAddr, SX.evField, SX.evIndexAddr, SX.evIndex, SX.evFill, SX.evBuild, SX.szs, SX.cellsV, SX.evNew, SX.evStore, SX.spliceL, SX.SV.cells, SX.evConv, SX.evSlice, SX.bnd, SX.evNil, SX.evUn, SX.evPick, SX.pickOpd, SX.popTo, SX.cnd, SX.env0, SX.TD.isAgg, SX.TD.isIface, SX.tails, SX.NotAgg, SX.evLookup, SX.evConvH, SX.evPtrEq, SX.isCells, SX.thaw, SX.frz, SX.fixB, SX.rootIx, SX.Froz, SX.frzStep, SX.fork, Go.Value.cells, Go.undef, cfg23, Try.f23]
  refine ⟨by (unfold SX.Ob; first | trivial | omega | ((try simp only [SX.inK]); (try simp [SX.den, SX.IsU8, SX.AllP, *]); (try omega))), ?_⟩
  intro a1 w1 hr1 _
  exact post_retn (end1 hr1 rfl rfl ⟨by simp [den], hr1.keeps.toBelow⟩).1

set_option maxRecDepth 100000 in
set_option maxHeartbeats 8000000 in
/-- cmp.Compare. -/
theorem cmp_ok (w : World) (x y : Int) : Calls Try.prog 18 (denL [.v (.int .i64 x), .v (.int .i64 y)]).toArray w (Ret w (.v (.int .i64 (cmpI x y)))) := by
  refine enter (F := frame0 w) Try.func18 rfl [.v (.int .i64 x), .v (.int .i64 y)] [] (by simp [Try.f18]) trivial (keeps0 w) fun a hr => ?_
  refine seg cfg18_ok mixed PanicFree.body 1000 [] [] hr (by first | trivial | exact HpRep.nil | assumption) (by kernel_rfl) fun s_ hs_ => ?_
  simp (maxSteps := 10000000) [SX.vc, SX.stop, SX.contS, SX.contB, SX.contW, SX.contR, SX.contD, SX.sxStep, SX.stepPure, SX.stepNew, SX.stepStore, SX.stepKeep, SX.guardIx, SX.evOp, SX.opd, SX.opds, SX.optOpd, SX.look, SX.putS, SX.gobs, SX.AllP, SX.leave, SX.lookC, SX.lookB, SX.lookT, SX.lookN, SX.findK, SX.evBuiltin, SX.ints, SX.foldI, SX.evBin, SX.evInt, SX.evStr, SX.evEq, SX.arith, SX.evLoad, SX.shapeUp, SX.evFieldAddr, SX.evField, SX.evIndexAddr, SX.evIndex, SX.evFill, SX.evBuild, SX.szs, SX.cellsV, SX.evNew, SX.evStore, SX.spliceL, SX.SV.cells, SX.evConv, SX.evSlice, SX.bnd, SX.evNil, SX.evUn, SX.evPick, SX.pickOpd, SX.popTo, SX.cnd, SX.env0, SX.TD.isAgg, SX.TD.isIface, SX.tails, SX.NotAgg, SX.evLookup, SX.evConvH, SX.evPtrEq, SX.isCells, SX.thaw, SX.frz, SX.fixB, SX.rootIx, SX.Froz, SX.frzStep, SX.fork, Go.Value.cells, Go.undef, cfg18, Try.f18]
  refine ⟨by (unfold SX.Ob; first | trivial | omega | ((try simp only [SX.inK]); (try simp [SX.den, SX.IsU8, SX.AllP, *]); (try omega))), ?_⟩
  intro a1 w1 hr1 _
  refine post_call 23 [.v (.int .i64 x)] hr1 (by first | exact wanted_none rfl | exact wanted_zero (hr1.env.same rfl rfl rfl rfl) rfl (by simp) | exact wanted_zero (hr1.env.same rfl rfl rfl rfl) rfl (by simp [*])) rfl (callable 23 Try.func23) (nan_ok w1 x) ?_
  rintro e2 w2 ⟨rfl, hb2⟩
  refine ⟨_, rfl, ?_⟩
  have h2 := hr1.ret hb2 8 (.v (.bool false)) rfl _ (hr1.all.below hb2) (by simp) rfl
  refine seg cfg18_ok mixed PanicFree.body 1000 [] [] h2 (by first | trivial | exact HpRep.nil | assumption) (by kernel_rfl) fun s_ hs_ => ?_
  simp (maxSteps := 10000000) [SX.vc, SX.stop, SX.contS, SX.contB, SX.contW, SX.contR, SX.contD, SX.sxStep, SX.stepPure, SX.stepNew, SX.stepStore, SX.stepKeep, SX.guardIx, SX.evOp, SX.opd, SX.opds, SX.optOpd, SX.look, SX.putS, SX.gobs, SX.AllP, SX.leave, SX.lookC, SX.lookB, SX.lookT, SX.lookN, SX.findK, SX.evBuiltin, SX.ints, SX.foldI, SX.evBin, SX.evInt, SX.evStr, SX.evEq, SX.arith, SX.evLoad, SX.shapeUp, SX.evFieldAddr, SX.evField, SX.evIndexAddr, SX.evIndex, SX.evFill, SX.evBuild, SX.szs, SX.cellsV, SX.evNew, SX.evStore, SX.spliceL, SX.SV.cells, SX.evConv, SX.evSlice, SX.bnd, SX.evNil, SX.evUn, SX.evPick, SX.pickOpd, SX.popTo, SX.cnd, SX.env0, SX.TD.isAgg, SX.TD.isIface, SX.tails, SX.NotAgg, SX.evLookup, SX.evConvH, SX.evPtrEq, SX.isCells, SX.thaw, SX.frz, SX.fixB, SX.rootIx, SX.Froz, SX.frzStep, SX.fork, Go.Value.cells, Go.undef, cfg18]
  refine ⟨by (unfold SX.Ob; first | trivial | omega | ((try simp only [SX.inK]); (try simp [SX.den, SX.IsU8, SX.AllP, *]); (try omega))), ?_⟩
  intro a3 w3 hr3 _
  refine post_call 23 [.v (.int .i64 y)] hr3 (by first | exact wanted_none rfl | exact wanted_zero (hr3.env.same rfl rfl rfl rfl) rfl (by simp) | exact wanted_zero (hr3.env.same rfl rfl rfl rfl) rfl (by simp [*])) rfl (callable 23 Try.func23) (nan_ok w3 y) ?_
  rintro e4 w4 ⟨rfl, hb4⟩
  refine ⟨_, rfl, ?_⟩
  have h4 := hr3.ret hb4 10 (.v (.bool false)) rfl _ (hr3.all.below hb4) (by simp) rfl
  by_cases h1 : x < y
  · have hc : cmpI x y = -1 := if_pos h1
    refine seg cfg18_ok mixed PanicFree.body 1000 [false, false, true] [] h4 (by first | trivial | exact HpRep.nil | assumption) (by kernel_rfl) fun s_ hs_ => ?_
    simp (maxSteps := 10000000) [SX.vc, SX.stop, SX.contS, SX.contB, SX.contW, SX.contR, SX.contD, SX.sxStep, SX.stepPure, SX.stepNew, SX.stepStore, SX.stepKeep, SX.guardIx, SX.evOp, SX.opd, SX.opds, SX.optOpd, SX.look, SX.putS, SX.gobs, SX.AllP, SX.leave, SX.lookC, SX.lookB, SX.lookT, SX.lookN, SX.findK, SX.evBuiltin, SX.ints, SX.foldI, SX.evBin, SX.evInt, SX.evStr, SX.evEq, SX.arith, SX.evLoad, SX.shapeUp, SX.evFieldAddr, SX.evField, SX.evIndexAddr, SX.evIndex, SX.evFill, SX.evBuild, SX.szs, SX.cellsV, SX.evNew, SX.evStore, SX.spliceL, SX.SV.cells, SX.evConv, SX.evSlice, SX.bnd, SX.evNil, SX.evUn, SX.evPick, SX.pickOpd, SX.popTo, SX.cnd, SX.env0, SX.TD.isAgg, SX.TD.isIface, SX.tails, SX.NotAgg, SX.evLookup, SX.evConvH, SX.evPtrEq, SX.isCells, SX.thaw, SX.frz, SX.fixB, SX.rootIx, SX.Froz, SX.frzStep, SX.fork, Go.Value.cells, Go.undef, cfg18, h1]
    refine ⟨by (unfold SX.Ob; first | trivial | omega | ((try simp only [SX.inK]); (try simp [SX.den, SX.IsU8, SX.AllP, *]); (try omega))), ?_⟩
    intro a5 w5 hr5 _
    exact post_retn (end1 hr5 rfl rfl ⟨by rw [hc], hr5.keeps.toBelow⟩).1
  by_cases h2' : y < x
  · have hc : cmpI x y = 1 := by rw [cmpI, if_neg h1, if_pos h2']
    refine seg cfg18_ok mixed PanicFree.body 1000 [false, false, false, true] [] h4 (by first | trivial | exact HpRep.nil | assumption) (by kernel_rfl) fun s_ hs_ => ?_
    simp (maxSteps := 10000000) [SX.vc, SX.stop, SX.contS, SX.contB, SX.contW, SX.contR, SX.contD, SX.sxStep, SX.stepPure, SX.stepNew, SX.stepStore, SX.stepKeep, SX.guardIx, SX.evOp, SX.opd, SX.opds, SX.optOpd, SX.look, SX.putS, SX.gobs, SX.AllP, SX.leave, SX.lookC, SX.lookB, SX.lookT, SX.lookN, SX.findK, SX.evBuiltin, SX.ints, SX.foldI, SX.evBin, SX.evInt, SX.evStr, SX.evEq, SX.arith, SX.evLoad, SX.shapeUp, SX.evFieldAddr, SX.evField, SX.evIndexAddr, SX.evIndex, SX.evFill, SX.evBuild, SX.szs, SX.cellsV, SX.evNew, SX.evStore, SX.spliceL, SX.SV.cells, SX.evConv, SX.evSlice, SX.bnd, SX.evNil, SX.evUn, SX.evPick, SX.pickOpd, SX.popTo, SX.cnd, SX.env0, SX.TD.isAgg, SX.TD.isIface, SX.tails, SX.NotAgg, SX.evLookup, SX.evConvH, SX.evPtrEq, SX.isCells, SX.thaw, SX.frz, SX.fixB, SX.rootIx, SX.Froz, SX.frzStep, SX.fork, Go.Value.cells, Go.undef, cfg18, h1, h2']
    refine ⟨by (unfold SX.Ob; first | trivial | omega | ((try simp only [SX.inK]); (try simp [SX.den, SX.IsU8, SX.AllP, *]); (try omega))), ?_⟩
    intro a5 w5 hr5 _
    exact post_retn (end1 hr5 rfl rfl ⟨by rw [hc], hr5.keeps.toBelow⟩).1
  · have hc : cmpI x y = 0 := by rw [cmpI, if_neg h1, if_neg h2']
    refine seg cfg18_ok mixed PanicFree.body 1000 [false, false, false, false] [] h4 (by first | trivial | exact HpRep.nil | assumption) (by kernel_rfl) fun s_ hs_ => ?_
    simp (maxSteps := 10000000) [SX.vc, SX.stop, SX.contS, SX.contB, SX.contW, SX.contR, SX.contD, SX.sxStep, SX.stepPure, SX.stepNew, SX.stepStore, SX.stepKeep, SX.guardIx, SX.evOp, SX.opd, SX.opds, SX.optOpd, SX.look, SX.putS, SX.gobs, SX.AllP, SX.leave, SX.lookC, SX.lookB, SX.lookT, SX.lookN, SX.findK, SX.evBuiltin, SX.ints, SX.foldI, SX.evBin, SX.evInt, SX.evStr, SX.evEq, SX.arith, SX.evLoad, SX.shapeUp, SX.evFieldAddr, SX.evField, SX.evIndexAddr, SX.evIndex, SX.evFill, SX.evBuild, SX.szs, SX.cellsV, SX.evNew, SX.evStore, SX.spliceL, SX.SV.cells, SX.evConv, SX.evSlice, SX.bnd, SX.evNil, SX.evUn, SX.evPick, SX.pickOpd, SX.popTo, SX.cnd, SX.env0, SX.TD.isAgg, SX.TD.isIface, SX.tails, SX.NotAgg, SX.evLookup, SX.evConvH, SX.evPtrEq, SX.isCells, SX.thaw, SX.frz, SX.fixB, SX.rootIx, SX.Froz, SX.frzStep, SX.fork, Go.Value.cells, Go.undef, cfg18, h1, h2']
    refine ⟨by (unfold SX.Ob; first | trivial | omega | ((try simp only [SX.inK]); (try simp [SX.den, SX.IsU8, SX.AllP, *]); (try omega))), ?_⟩
    intro a5 w5 hr5 _
    exact post_retn (end1 hr5 rfl rfl ⟨by rw [hc], hr5.keeps.toBelow⟩).1


/-- A list in a block of one's own. -/
def DatF (w : World) (b N u n : Nat) (g : Nat → HEv) : Prop := n ≤ N ∧ ∃ row : Nat → List SV, (SO.arr 0 N row 5 u (0, 0)).rep w b ∧ ∀ j, j < n → row j = evRow (g j)
def SrtR (w : World) (b N u n : Nat) (Q : (Nat → HEv) → Prop) (e : Ending) (w' : World) : Prop := e = .returned (.tuple #[]) ∧ (∃ g', DatF w' b N u n g' ∧ Q g') ∧ KeepsTo w [b] w'
/-- A closure that compares. -/
def CmpAt (w0 : World) (b c : Nat) (key : HEv → Int) (V : HEv → Prop) : Prop := ∀ w', KeepsTo w0 [b] w' → ∀ x y, V x → V y → Calls Try.prog 17 (denL [.ag [.v (.int .i64 x.at_), .v (.int .i64 x.lba), .v (.bool x.rd), .v (.int .i64 x.ver), .v (.int .u8 x.by_)], .ag [.v (.int .i64 y.at_), .v (.int .i64 y.lba), .v (.bool y.rd), .v (.int .i64 y.ver), .v (.int .u8 y.by_)]]).toArray w' fun e w'' => (∃ r : Int, e = .returned (den (.v (.int .i64 r))) ∧ (r < 0 ↔ key x < key y)) ∧ Below w'.heap.size w' w''
theorem KeepsTo.more {w w1 w2 : World} {M : List Nat} (h : KeepsTo w M w1) (h2 : KeepsTo w1 M w2) : KeepsTo w M w2 := Keeps.to h h2 fun x hx => .inr hx
theorem swp_row {row : Nat → List SV} {g : Nat → HEv} {n p q : Nat} (hrow : ∀ j, j < n → row j = evRow (g j)) (hpq : p ≠ q) {x y : HEv} (hx : g q = x) (hy : g p = y) : ∀ j, j < n → setRow (setRow row p [.v (.int .i64 x.at_), .v (.int .i64 x.lba), .v (.bool x.rd), .v (.int .i64 x.ver), .v (.int .u8 x.by_)]) q [.v (.int .i64 y.at_), .v (.int .i64 y.lba), .v (.bool y.rd), .v (.int .i64 y.ver), .v (.int .u8 y.by_)] j = evRow (swp g p q j) := by
  intro j hj
  unfold setRow swp
  by_cases h1 : j = q
  · subst h1
    rw [if_pos rfl, if_neg (by omega), if_pos rfl, hy]
    rfl
  · rw [if_neg h1]
    by_cases h2 : j = p
    · rw [if_pos h2, if_pos h2, hx]
      rfl
    · rw [if_neg h2, if_neg h2, if_neg h1]
      exact hrow j hj

def SwLoop (w : World) (b N u n cap c a0 q0 k0 : Nat) (g : Nat → HEv) (m : Nat) (a : Act) (w' : World) : Prop :=
  ∃ (i : Nat) (row : Nat → List SV), m = k0 - i ∧ i ≤ k0 ∧ (∀ j, j < n → row j = evRow (swr g a0 q0 i j)) ∧ RepX ⟨w, w.heap.size, [b]⟩ ⟨[(10, 0, .v (.int .i64 i)), (0, 0, .sl 0 b 0 0 n cap 5), (1, 0, .v (.int .i64 a0)), (2, 0, .v (.int .i64 q0)), (3, 0, .v (.int .i64 k0))], [(b, true, .arr 0 N row 5 u (0, 0))], 0, 0, 38, [], [], []⟩ a w'

set_option maxRecDepth 100000 in
set_option maxHeartbeats 16000000 in
/-- swapRange. -/
theorem swr_ok (w : World) (b N u n cap c a0 q0 k0 : Nat) (g : Nat → HEv) (hD : DatF w b N u n g) (hn : n ≤ 1000) (h1 : a0 + k0 ≤ q0) (h2 : q0 + k0 ≤ n) : Calls Try.prog 45 (denL [.sl 0 b 0 0 n cap 5, .v (.int .i64 a0), .v (.int .i64 q0), .v (.int .i64 k0), .fn (.func 17) [] []]).toArray w (SrtR w b N u n fun g' => g' = swr g a0 q0 k0) := by
  obtain ⟨hN, row0, hrep0, hrow0⟩ := hD
  refine enter (F := ⟨w, w.heap.size, [b]⟩) Try.func45 rfl [.sl 0 b 0 0 n cap 5, .v (.int .i64 a0), .v (.int .i64 q0), .v (.int .i64 k0), .fn (.func 17) [] []] [(b, true, .arr 0 N row0 5 u (0, 0))] (by simp [Try.f45, denL, den]) ⟨⟨hrep0, fun _ => .inr (by simp), by simp⟩, trivial⟩ (KeepsTo.refl w _) fun a hr => ?_
  refine seg cfg45_ok mixed PanicFree.body 1000 [] [] hr (by first | trivial | exact HpRep.nil | assumption) (by kernel_rfl) fun s_ hs_ => ?_
  simp (maxSteps := 10000000) [SX.vc, SX.stop, SX.contS, SX.contB, SX.contW, SX.contR, SX.contD, SX.sxStep, SX.stepPure, SX.stepNew, SX.stepStore, SX.stepKeep, SX.guardIx, SX.evOp, SX.opd, SX.opds, SX.optOpd, SX.look, SX.putS, SX.gobs, SX.AllP, SX.leave, SX.lookC, SX.lookB, SX.lookT, SX.lookN, SX.findK, SX.evBuiltin, SX.ints, SX.foldI, SX.evBin, SX.evInt, SX.evStr, SX.evEq, SX.arith, SX.evLoad, SX.shapeUp, SX.evFieldAddr, SX.evField, SX.evIndexAddr, SX.evIndex, SX.evFill, SX.evBuild, SX.szs, SX.cellsV, SX.evNew, SX.evStore, SX.spliceL, SX.SV.cells, SX.evConv, SX.evSlice, SX.bnd, SX.evNil, SX.evUn, SX.evPick, SX.pickOpd, SX.popTo, SX.cnd, SX.env0, SX.TD.isAgg, SX.TD.isIface, SX.tails, SX.NotAgg, SX.evLookup, SX.evConvH, SX.evPtrEq, SX.isCells, SX.thaw, SX.frz, SX.fixB, SX.rootIx, SX.Froz, SX.frzStep, SX.fork, Go.Value.cells, Go.undef, cfg45, Try.f45]
  refine ⟨by (unfold SX.Ob; first | trivial | omega | ((try simp only [SX.inK]); (try simp [SX.den, SX.IsU8, SX.AllP, *]); (try omega))), ?_⟩
  intro a1 w1 hr1 _
  refine post_loop (SwLoop w b N u n cap c a0 q0 k0 g) k0 ⟨0, row0, rfl, by omega, by rw [swr_zero]; exact hrow0, hr1.re (by simp [envTo, SX.look]) hr1.all rfl rfl⟩ ?_
  rintro m a2 w2 ⟨i, row, rfl, hi, hrow, hr2⟩
  by_cases hlt : i < k0
  · obtain ⟨p, hp⟩ : ∃ p, p = a0 + i := ⟨_, rfl⟩
    obtain ⟨q, hq⟩ : ∃ q, q = q0 + i := ⟨_, rfl⟩
    have hpi : (a0 : Int) + (i : Int) = (p : Int) := by omega
    have hqi : (q0 : Int) + (i : Int) = (q : Int) := by omega
    have hpn : p < n := by omega
    have hqn : q < n := by omega
    have hpN : p < N := by omega
    have hqN : q < N := by omega
    have hpq : p ≠ q := by omega
    have hqp : q ≠ p := by omega
    obtain ⟨x, hx⟩ : ∃ x, swr g a0 q0 i q = x := ⟨_, rfl⟩
    obtain ⟨y, hy⟩ : ∃ y, swr g a0 q0 i p = y := ⟨_, rfl⟩
    have hrp : row p = [.v (.int .i64 y.at_), .v (.int .i64 y.lba), .v (.bool y.rd), .v (.int .i64 y.ver), .v (.int .u8 y.by_)] := by rw [hrow p hpn, hy]; rfl
    have hrq : row q = [.v (.int .i64 x.at_), .v (.int .i64 x.lba), .v (.bool x.rd), .v (.int .i64 x.ver), .v (.int .u8 x.by_)] := by rw [hrow q hqn, hx]; rfl
    have hrq' : setRow row p [.v (.int .i64 x.at_), .v (.int .i64 x.lba), .v (.bool x.rd), .v (.int .i64 x.ver), .v (.int .u8 x.by_)] q = [.v (.int .i64 x.at_), .v (.int .i64 x.lba), .v (.bool x.rd), .v (.int .i64 x.ver), .v (.int .u8 x.by_)] := by unfold setRow; rw [if_neg hqp, hrq]
    clear hp hq
    refine seg cfg45_ok mixed PanicFree.body 1000 [true] [] hr2 (by first | trivial | exact HpRep.nil | assumption) (by kernel_rfl) fun s_ hs_ => ?_
    simp (maxSteps := 10000000) [SX.vc, SX.stop, SX.contS, SX.contB, SX.contW, SX.contR, SX.contD, SX.sxStep, SX.stepPure, SX.stepNew, SX.stepStore, SX.stepKeep, SX.guardIx, SX.evOp, SX.opd, SX.opds, SX.optOpd, SX.look, SX.putS, SX.gobs, SX.AllP, SX.leave, SX.lookC, SX.lookB, SX.lookT, SX.lookN, SX.findK, SX.evBuiltin, SX.ints, SX.foldI, SX.evBin, SX.evInt, SX.evStr, SX.evEq, SX.arith, SX.evLoad, SX.shapeUp, SX.evFieldAddr, SX.evField, SX.evIndexAddr, SX.evIndex, SX.evFill, SX.evBuild, SX.szs, SX.cellsV, SX.evNew, SX.evStore, SX.spliceL, SX.SV.cells, SX.evConv, SX.evSlice, SX.bnd, SX.evNil, SX.evUn, SX.evPick, SX.pickOpd, SX.popTo, SX.cnd, SX.env0, SX.TD.isAgg, SX.TD.isIface, SX.tails, SX.NotAgg, SX.evLookup, SX.evConvH, SX.evPtrEq, SX.isCells, SX.thaw, SX.frz, SX.fixB, SX.rootIx, SX.Froz, SX.frzStep, SX.fork, Go.Value.cells, Go.undef, cfg45, hpi, hqi, hrp, hrq, hrq', hpn, hqn]
    refine ⟨by (unfold SX.Ob; first | trivial | omega | ((try simp only [SX.inK]); (try simp [SX.den, SX.IsU8, SX.AllP, *]); (try omega))), ?_⟩
    intro a3 w3 hr3 _
    have hst := swr_step (g := g) (a := a0) (b := q0) (n := i) (by omega)
    have hp : p = a0 + i := by omega
    have hq : q = q0 + i := by omega
    rw [← hp, ← hq] at hst
    exact post_rnd (k0 - (i + 1)) (by omega) ⟨i + 1, _, rfl, by omega, by rw [← hst]; exact swp_row hrow hpq hx hy, hr3.re (by simp [envTo, SX.look, den]) hr3.all rfl rfl⟩
  · obtain rfl : i = k0 := by omega
    refine seg cfg45_ok mixed PanicFree.body 1000 [false] [] hr2 (by first | trivial | exact HpRep.nil | assumption) (by kernel_rfl) fun s_ hs_ => ?_
    simp (maxSteps := 10000000) [SX.vc, SX.stop, SX.contS, SX.contB, SX.contW, SX.contR, SX.contD, SX.sxStep, SX.stepPure, SX.stepNew, SX.stepStore, SX.stepKeep, SX.guardIx, SX.evOp, SX.opd, SX.opds, SX.optOpd, SX.look, SX.putS, SX.gobs, SX.AllP, SX.leave, SX.lookC, SX.lookB, SX.lookT, SX.lookN, SX.findK, SX.evBuiltin, SX.ints, SX.foldI, SX.evBin, SX.evInt, SX.evStr, SX.evEq, SX.arith, SX.evLoad, SX.shapeUp, SX.evFieldAddr, SX.evField, SX.evIndexAddr, SX.evIndex, SX.evFill, SX.evBuild, SX.szs, SX.cellsV, SX.evNew, SX.evStore, SX.spliceL, SX.SV.cells, SX.evConv, SX.evSlice, SX.bnd, SX.evNil, SX.evUn, SX.evPick, SX.pickOpd, SX.popTo, SX.cnd, SX.env0, SX.TD.isAgg, SX.TD.isIface, SX.tails, SX.NotAgg, SX.evLookup, SX.evConvH, SX.evPtrEq, SX.isCells, SX.thaw, SX.frz, SX.fixB, SX.rootIx, SX.Froz, SX.frzStep, SX.fork, Go.Value.cells, Go.undef, cfg45]
    refine ⟨by (unfold SX.Ob; first | trivial | omega | ((try simp only [SX.inK]); (try simp [SX.den, SX.IsU8, SX.AllP, *]); (try omega))), ?_⟩
    intro a3 w3 hr3 _
    exact post_nil (end0 hr3 rfl ⟨rfl, ⟨_, ⟨hN, row, hr3.all.1.1, hrow⟩, rfl⟩, hr3.keeps⟩).2

def RoLoop (w : World) (b N u n cap c a0 m0 b0 : Nat) (g : Nat → HEv) (mm : Nat) (a : Act) (w' : World) : Prop :=
  ∃ (i j : Nat) (G : Nat → HEv) (row : Nat → List SV), mm = i + j ∧ 0 < i ∧ 0 < j ∧ i ≤ m0 ∧ m0 + j ≤ n ∧ rot G (m0 - i) m0 (m0 + j) = rot g a0 m0 b0 ∧ (∀ t, t < n → row t = evRow (G t)) ∧ RepX ⟨w, w.heap.size, [b]⟩ ⟨[(10, 0, .v (.int .i64 i)), (11, 0, .v (.int .i64 j)), (0, 0, .sl 0 b 0 0 n cap 5), (2, 0, .v (.int .i64 m0)), (4, 0, .fn (.func 17) [] [])], [(b, true, .arr 0 N row 5 u (0, 0))], 0, 0, 58, [], [], []⟩ a w'

set_option maxRecDepth 100000 in
set_option maxHeartbeats 16000000 in
/-- rotate. -/
theorem rot_ok (w : World) (b N u n cap c a0 m0 b0 : Nat) (g : Nat → HEv) (hD : DatF w b N u n g) (hn : n ≤ 1000) (h1 : a0 < m0) (h2 : m0 < b0) (h3 : b0 ≤ n) : Calls Try.prog 33 (denL [.sl 0 b 0 0 n cap 5, .v (.int .i64 a0), .v (.int .i64 m0), .v (.int .i64 b0), .fn (.func 17) [] []]).toArray w (SrtR w b N u n fun g' => g' = rot g a0 m0 b0) := by
  obtain ⟨hN, row0, hrep0, hrow0⟩ := hD
  refine enter (F := ⟨w, w.heap.size, [b]⟩) Try.func33 rfl [.sl 0 b 0 0 n cap 5, .v (.int .i64 a0), .v (.int .i64 m0), .v (.int .i64 b0), .fn (.func 17) [] []] [(b, true, .arr 0 N row0 5 u (0, 0))] (by simp [Try.f33, denL, den]) ⟨⟨hrep0, fun _ => .inr (by simp), by simp⟩, trivial⟩ (KeepsTo.refl w _) fun a hr => ?_
  obtain ⟨i0, hi0⟩ : ∃ i0, i0 = m0 - a0 := ⟨_, rfl⟩
  obtain ⟨j0, hj0⟩ : ∃ j0, j0 = b0 - m0 := ⟨_, rfl⟩
  have hi0' : (m0 : Int) - (a0 : Int) = (i0 : Int) := by omega
  have hj0' : (b0 : Int) - (m0 : Int) = (j0 : Int) := by omega
  refine seg cfg33_ok mixed PanicFree.body 1000 [] [] hr (by first | trivial | exact HpRep.nil | assumption) (by kernel_rfl) fun s_ hs_ => ?_
  simp (maxSteps := 10000000) [SX.vc, SX.stop, SX.contS, SX.contB, SX.contW, SX.contR, SX.contD, SX.sxStep, SX.stepPure, SX.stepNew, SX.stepStore, SX.stepKeep, SX.guardIx, SX.evOp, SX.opd, SX.opds, SX.optOpd, SX.look, SX.putS, SX.gobs, SX.AllP, SX.leave, SX.lookC, SX.lookB, SX.lookT, SX.lookN, SX.findK, SX.evBuiltin, SX.ints, SX.foldI, SX.evBin, SX.evInt, SX.evStr, SX.evEq, SX.arith, SX.evLoad, SX.shapeUp, SX.evFieldAddr, SX.evField, SX.evIndexAddr, SX.evIndex, SX.evFill, SX.evBuild, SX.szs, SX.cellsV, SX.evNew, SX.evStore, SX.spliceL, SX.SV.cells, SX.evConv, SX.evSlice, SX.bnd, SX.evNil, SX.evUn, SX.evPick, SX.pickOpd, SX.popTo, SX.cnd, SX.env0, SX.TD.isAgg, SX.TD.isIface, SX.tails, SX.NotAgg, SX.evLookup, SX.evConvH, SX.evPtrEq, SX.isCells, SX.thaw, SX.frz, SX.fixB, SX.rootIx, SX.Froz, SX.frzStep, SX.fork, Go.Value.cells, Go.undef, cfg33, Try.f33, hi0', hj0']
  refine ⟨by (unfold SX.Ob; first | trivial | omega | ((try simp only [SX.inK]); (try simp [SX.den, SX.IsU8, SX.AllP, *]); (try omega))), ?_⟩
  intro a1 w1 hr1 _
  refine post_loop (RoLoop w b N u n cap c a0 m0 b0 g) (i0 + j0) ⟨i0, j0, g, row0, rfl, by omega, by omega, by omega, by omega, by rw [show m0 - i0 = a0 by omega, show m0 + j0 = b0 by omega], hrow0, hr1.re (by simp [envTo, SX.look]) hr1.all rfl rfl⟩ ?_
  rintro mm a2 w2 ⟨i, j, G, row, rfl, hi, hj, him, hjn, hG, hrow, hr2⟩
  have hD2 : DatF w2 b N u n G := ⟨hN, row, hr2.all.1.1, hrow⟩
  obtain ⟨p, hp⟩ : ∃ p, p = m0 - i := ⟨_, rfl⟩
  have hp' : (m0 : Int) - (i : Int) = (p : Int) := by omega
  by_cases hij : i = j
  · subst hij
    have hne : ((i : Int) != (i : Int)) = false := by simp
    refine seg cfg33_ok mixed PanicFree.body 1000 [false] [] hr2 (by first | trivial | exact HpRep.nil | assumption) (by kernel_rfl) fun s_ hs_ => ?_
    simp (maxSteps := 10000000) [SX.vc, SX.stop, SX.contS, SX.contB, SX.contW, SX.contR, SX.contD, SX.sxStep, SX.stepPure, SX.stepNew, SX.stepStore, SX.stepKeep, SX.guardIx, SX.evOp, SX.opd, SX.opds, SX.optOpd, SX.look, SX.putS, SX.gobs, SX.AllP, SX.leave, SX.lookC, SX.lookB, SX.lookT, SX.lookN, SX.findK, SX.evBuiltin, SX.ints, SX.foldI, SX.evBin, SX.evInt, SX.evStr, SX.evEq, SX.arith, SX.evLoad, SX.shapeUp, SX.evFieldAddr, SX.evField, SX.evIndexAddr, SX.evIndex, SX.evFill, SX.evBuild, SX.szs, SX.cellsV, SX.evNew, SX.evStore, SX.spliceL, SX.SV.cells, SX.evConv, SX.evSlice, SX.bnd, SX.evNil, SX.evUn, SX.evPick, SX.pickOpd, SX.popTo, SX.cnd, SX.env0, SX.TD.isAgg, SX.TD.isIface, SX.tails, SX.NotAgg, SX.evLookup, SX.evConvH, SX.evPtrEq, SX.isCells, SX.thaw, SX.frz, SX.fixB, SX.rootIx, SX.Froz, SX.frzStep, SX.fork, Go.Value.cells, Go.undef, cfg33, hne, hp']
    refine ⟨by (unfold SX.Ob; first | trivial | omega | ((try simp only [SX.inK]); (try simp [SX.den, SX.IsU8, SX.AllP, *]); (try omega))), ?_⟩
    intro a3 w3 hr3 _
    have hD3 : DatF w3 b N u n G := ⟨hN, row, hr3.all.1.1, hrow⟩
    refine post_call 45 [.sl 0 b 0 0 n cap 5, .v (.int .i64 p), .v (.int .i64 m0), .v (.int .i64 i), .fn (.func 17) [] []] hr3 (wanted_none rfl) rfl (callable 45 Try.func45) (swr_ok w3 b N u n cap c p m0 i G hD3 hn (by omega) (by omega)) ?_
    rintro e4 w4 ⟨rfl, ⟨g4, ⟨hN4, row4, hrep4, hrow4⟩, hg4⟩, hk4⟩
    refine ⟨_, rfl, ?_⟩
    have h4 := hr3.retK hk4 (fun x hx => .inr hx) 57 (.tu []) rfl [(b, true, .arr 0 N row4 5 u (0, 0))] ⟨⟨hrep4, fun _ => .inr (by simp), by simp⟩, trivial⟩ (by simp) rfl
    subst hg4
    refine seg cfg33_ok mixed PanicFree.body 1000 [] [] h4 (by first | trivial | exact HpRep.nil | assumption) (by kernel_rfl) fun s_ hs_ => ?_
    simp (maxSteps := 10000000) [SX.vc, SX.stop, SX.contS, SX.contB, SX.contW, SX.contR, SX.contD, SX.sxStep, SX.stepPure, SX.stepNew, SX.stepStore, SX.stepKeep, SX.guardIx, SX.evOp, SX.opd, SX.opds, SX.optOpd, SX.look, SX.putS, SX.gobs, SX.AllP, SX.leave, SX.lookC, SX.lookB, SX.lookT, SX.lookN, SX.findK, SX.evBuiltin, SX.ints, SX.foldI, SX.evBin, SX.evInt, SX.evStr, SX.evEq, SX.arith, SX.evLoad, SX.shapeUp, SX.evFieldAddr, SX.evField, SX.evIndexAddr, SX.evIndex, SX.evFill, SX.evBuild, SX.szs, SX.cellsV, SX.evNew, SX.evStore, SX.spliceL, SX.SV.cells, SX.evConv, SX.evSlice, SX.bnd, SX.evNil, SX.evUn, SX.evPick, SX.pickOpd, SX.popTo, SX.cnd, SX.env0, SX.TD.isAgg, SX.TD.isIface, SX.tails, SX.NotAgg, SX.evLookup, SX.evConvH, SX.evPtrEq, SX.isCells, SX.thaw, SX.frz, SX.fixB, SX.rootIx, SX.Froz, SX.frzStep, SX.fork, Go.Value.cells, Go.undef, cfg33]
    refine ⟨by (unfold SX.Ob; first | trivial | omega | ((try simp only [SX.inK]); (try simp [SX.den, SX.IsU8, SX.AllP, *]); (try omega))), ?_⟩
    intro a5 w5 hr5 _
    refine post_nil (end0 hr5 rfl ⟨rfl, ⟨_, ⟨hN, row4, hr5.all.1.1, hrow4⟩, ?_⟩, hr5.keeps⟩).2
    rw [← hG, hp]
    exact rot_even him
  have hne : ((i : Int) != (j : Int)) = true := by simp; omega
  by_cases hlt : j < i
  · obtain ⟨d, hd⟩ : ∃ d, d = i - j := ⟨_, rfl⟩
    have hd' : (i : Int) - (j : Int) = (d : Int) := by omega
    have hlt' : (j : Int) < (i : Int) := by omega
    refine seg cfg33_ok mixed PanicFree.body 1000 [true, true] [] hr2 (by first | trivial | exact HpRep.nil | assumption) (by kernel_rfl) fun s_ hs_ => ?_
    simp (maxSteps := 10000000) [SX.vc, SX.stop, SX.contS, SX.contB, SX.contW, SX.contR, SX.contD, SX.sxStep, SX.stepPure, SX.stepNew, SX.stepStore, SX.stepKeep, SX.guardIx, SX.evOp, SX.opd, SX.opds, SX.optOpd, SX.look, SX.putS, SX.gobs, SX.AllP, SX.leave, SX.lookC, SX.lookB, SX.lookT, SX.lookN, SX.findK, SX.evBuiltin, SX.ints, SX.foldI, SX.evBin, SX.evInt, SX.evStr, SX.evEq, SX.arith, SX.evLoad, SX.shapeUp, SX.evFieldAddr, SX.evField, SX.evIndexAddr, SX.evIndex, SX.evFill, SX.evBuild, SX.szs, SX.cellsV, SX.evNew, SX.evStore, SX.spliceL, SX.SV.cells, SX.evConv, SX.evSlice, SX.bnd, SX.evNil, SX.evUn, SX.evPick, SX.pickOpd, SX.popTo, SX.cnd, SX.env0, SX.TD.isAgg, SX.TD.isIface, SX.tails, SX.NotAgg, SX.evLookup, SX.evConvH, SX.evPtrEq, SX.isCells, SX.thaw, SX.frz, SX.fixB, SX.rootIx, SX.Froz, SX.frzStep, SX.fork, Go.Value.cells, Go.undef, cfg33, hne, hlt', hp']
    refine ⟨by (unfold SX.Ob; first | trivial | omega | ((try simp only [SX.inK]); (try simp [SX.den, SX.IsU8, SX.AllP, *]); (try omega))), ?_⟩
    intro a3 w3 hr3 _
    have hD3 : DatF w3 b N u n G := ⟨hN, row, hr3.all.1.1, hrow⟩
    refine post_call 45 [.sl 0 b 0 0 n cap 5, .v (.int .i64 p), .v (.int .i64 m0), .v (.int .i64 j), .fn (.func 17) [] []] hr3 (wanted_none rfl) rfl (callable 45 Try.func45) (swr_ok w3 b N u n cap c p m0 j G hD3 hn (by omega) (by omega)) ?_
    rintro e4 w4 ⟨rfl, ⟨g4, ⟨hN4, row4, hrep4, hrow4⟩, hg4⟩, hk4⟩
    refine ⟨_, rfl, ?_⟩
    have h4 := hr3.retK hk4 (fun x hx => .inr hx) 31 (.tu []) rfl [(b, true, .arr 0 N row4 5 u (0, 0))] ⟨⟨hrep4, fun _ => .inr (by simp), by simp⟩, trivial⟩ (by simp) rfl
    subst hg4
    refine seg cfg33_ok mixed PanicFree.body 1000 [] [] h4 (by first | trivial | exact HpRep.nil | assumption) (by kernel_rfl) fun s_ hs_ => ?_
    simp (maxSteps := 10000000) [SX.vc, SX.stop, SX.contS, SX.contB, SX.contW, SX.contR, SX.contD, SX.sxStep, SX.stepPure, SX.stepNew, SX.stepStore, SX.stepKeep, SX.guardIx, SX.evOp, SX.opd, SX.opds, SX.optOpd, SX.look, SX.putS, SX.gobs, SX.AllP, SX.leave, SX.lookC, SX.lookB, SX.lookT, SX.lookN, SX.findK, SX.evBuiltin, SX.ints, SX.foldI, SX.evBin, SX.evInt, SX.evStr, SX.evEq, SX.arith, SX.evLoad, SX.shapeUp, SX.evFieldAddr, SX.evField, SX.evIndexAddr, SX.evIndex, SX.evFill, SX.evBuild, SX.szs, SX.cellsV, SX.evNew, SX.evStore, SX.spliceL, SX.SV.cells, SX.evConv, SX.evSlice, SX.bnd, SX.evNil, SX.evUn, SX.evPick, SX.pickOpd, SX.popTo, SX.cnd, SX.env0, SX.TD.isAgg, SX.TD.isIface, SX.tails, SX.NotAgg, SX.evLookup, SX.evConvH, SX.evPtrEq, SX.isCells, SX.thaw, SX.frz, SX.fixB, SX.rootIx, SX.Froz, SX.frzStep, SX.fork, Go.Value.cells, Go.undef, cfg33, hd']
    refine ⟨by (unfold SX.Ob; first | trivial | omega | ((try simp only [SX.inK]); (try simp [SX.den, SX.IsU8, SX.AllP, *]); (try omega))), ?_⟩
    intro a5 w5 hr5 _
    exact post_rnd (d + j) (by omega) ⟨d, j, _, row4, rfl, by omega, hj, by omega, hjn, by rw [hd, hp, rot_big hlt him]; exact hG, hrow4, hr5.re (by simp [envTo, SX.look, den]) hr5.all rfl rfl⟩
  · obtain ⟨d, hd⟩ : ∃ d, d = j - i := ⟨_, rfl⟩
    have hd' : (j : Int) - (i : Int) = (d : Int) := by omega
    have hlt' : ¬ (j : Int) < (i : Int) := by omega
    obtain ⟨q, hq⟩ : ∃ q, q = m0 + j - i := ⟨_, rfl⟩
    have hq' : (m0 : Int) + (j : Int) - (i : Int) = (q : Int) := by omega
    refine seg cfg33_ok mixed PanicFree.body 1000 [true, false] [] hr2 (by first | trivial | exact HpRep.nil | assumption) (by kernel_rfl) fun s_ hs_ => ?_
    simp (maxSteps := 10000000) [SX.vc, SX.stop, SX.contS, SX.contB, SX.contW, SX.contR, SX.contD, SX.sxStep, SX.stepPure, SX.stepNew, SX.stepStore, SX.stepKeep, SX.guardIx, SX.evOp, SX.opd, SX.opds, SX.optOpd, SX.look, SX.putS, SX.gobs, SX.AllP, SX.leave, SX.lookC, SX.lookB, SX.lookT, SX.lookN, SX.findK, SX.evBuiltin, SX.ints, SX.foldI, SX.evBin, SX.evInt, SX.evStr, SX.evEq, SX.arith, SX.evLoad, SX.shapeUp, SX.evFieldAddr, SX.evField, SX.evIndexAddr, SX.evIndex, SX.evFill, SX.evBuild, SX.szs, SX.cellsV, SX.evNew, SX.evStore, SX.spliceL, SX.SV.cells, SX.evConv, SX.evSlice, SX.bnd, SX.evNil, SX.evUn, SX.evPick, SX.pickOpd, SX.popTo, SX.cnd, SX.env0, SX.TD.isAgg, SX.TD.isIface, SX.tails, SX.NotAgg, SX.evLookup, SX.evConvH, SX.evPtrEq, SX.isCells, SX.thaw, SX.frz, SX.fixB, SX.rootIx, SX.Froz, SX.frzStep, SX.fork, Go.Value.cells, Go.undef, cfg33, hne, hlt', hp', hq']
    refine ⟨by (unfold SX.Ob; first | trivial | omega | ((try simp only [SX.inK]); (try simp [SX.den, SX.IsU8, SX.AllP, *]); (try omega))), ?_⟩
    intro a3 w3 hr3 _
    have hD3 : DatF w3 b N u n G := ⟨hN, row, hr3.all.1.1, hrow⟩
    refine post_call 45 [.sl 0 b 0 0 n cap 5, .v (.int .i64 p), .v (.int .i64 q), .v (.int .i64 i), .fn (.func 17) [] []] hr3 (wanted_none rfl) rfl (callable 45 Try.func45) (swr_ok w3 b N u n cap c p q i G hD3 hn (by omega) (by omega)) ?_
    rintro e4 w4 ⟨rfl, ⟨g4, ⟨hN4, row4, hrep4, hrow4⟩, hg4⟩, hk4⟩
    refine ⟨_, rfl, ?_⟩
    have h4 := hr3.retK hk4 (fun x hx => .inr hx) 46 (.tu []) rfl [(b, true, .arr 0 N row4 5 u (0, 0))] ⟨⟨hrep4, fun _ => .inr (by simp), by simp⟩, trivial⟩ (by simp) rfl
    subst hg4
    refine seg cfg33_ok mixed PanicFree.body 1000 [] [] h4 (by first | trivial | exact HpRep.nil | assumption) (by kernel_rfl) fun s_ hs_ => ?_
    simp (maxSteps := 10000000) [SX.vc, SX.stop, SX.contS, SX.contB, SX.contW, SX.contR, SX.contD, SX.sxStep, SX.stepPure, SX.stepNew, SX.stepStore, SX.stepKeep, SX.guardIx, SX.evOp, SX.opd, SX.opds, SX.optOpd, SX.look, SX.putS, SX.gobs, SX.AllP, SX.leave, SX.lookC, SX.lookB, SX.lookT, SX.lookN, SX.findK, SX.evBuiltin, SX.ints, SX.foldI, SX.evBin, SX.evInt, SX.evStr, SX.evEq, SX.arith, SX.evLoad, SX.shapeUp, SX.evFieldAddr, SX.evField, SX.evIndexAddr, SX.evIndex, SX.evFill, SX.evBuild, SX.szs, SX.cellsV, SX.evNew, SX.evStore, SX.spliceL, SX.SV.cells, SX.evConv, SX.evSlice, SX.bnd, SX.evNil, SX.evUn, SX.evPick, SX.pickOpd, SX.popTo, SX.cnd, SX.env0, SX.TD.isAgg, SX.TD.isIface, SX.tails, SX.NotAgg, SX.evLookup, SX.evConvH, SX.evPtrEq, SX.isCells, SX.thaw, SX.frz, SX.fixB, SX.rootIx, SX.Froz, SX.frzStep, SX.fork, Go.Value.cells, Go.undef, cfg33, hd']
    refine ⟨by (unfold SX.Ob; first | trivial | omega | ((try simp only [SX.inK]); (try simp [SX.den, SX.IsU8, SX.AllP, *]); (try omega))), ?_⟩
    intro a5 w5 hr5 _
    exact post_rnd (i + d) (by omega) ⟨i, d, _, row4, rfl, hi, by omega, him, by omega, by rw [hd, hp, hq, rot_small (by omega) him]; exact hG, hrow4, hr5.re (by simp [envTo, SX.look, den]) hr5.all rfl rfl⟩

def InLoop1 (w : World) (b N u n cap c a0 b0 : Nat) (key : HEv → Int) (g : Nat → HEv) (mm : Nat) (a : Act) (w' : World) : Prop :=
  ∃ (i : Nat) (G : Nat → HEv) (row : Nat → List SV), mm = b0 - i ∧ a0 + 1 ≤ i ∧ (i ≤ b0 ∨ b0 ≤ a0) ∧ i ≤ n + 1 ∧ SameF key a0 b0 g G ∧ SortF key a0 i G ∧ (∀ t, t < n → row t = evRow (G t)) ∧ RepX ⟨w, w.heap.size, [b]⟩ ⟨[(8, 0, .v (.int .i64 i)), (0, 0, .sl 0 b 0 0 n cap 5), (1, 0, .v (.int .i64 a0)), (2, 0, .v (.int .i64 b0)), (3, 0, .fn (.func 17) [] [])], [(b, true, .arr 0 N row 5 u (0, 0))], 0, 0, 53, [], [], []⟩ a w'
def InLoop2 (w : World) (b N u n cap c a0 b0 i : Nat) (key : HEv → Int) (G : Nat → HEv) (mm : Nat) (a : Act) (w' : World) : Prop :=
  ∃ (j : Nat) (row : Nat → List SV), mm = j ∧ a0 ≤ j ∧ j ≤ i ∧ (∀ t, j ≤ t → t < i → key (G i) < key (G t)) ∧ (∀ t, t < n → row t = evRow (rot G j i (i + 1) t)) ∧ RepX ⟨w, w.heap.size, [b]⟩ ⟨[(9, 0, .v (.int .i64 j)), (8, 0, .v (.int .i64 i)), (0, 0, .sl 0 b 0 0 n cap 5), (1, 0, .v (.int .i64 a0)), (2, 0, .v (.int .i64 b0)), (3, 0, .fn (.func 17) [] [])], [(b, true, .arr 0 N row 5 u (0, 0))], 0, 0, 53, [], [], []⟩ a w'

set_option maxRecDepth 100000 in
set_option maxHeartbeats 32000000 in
/-- insertionSort. -/
theorem ins_ok (w0 w : World) (b N u n cap c a0 b0 : Nat) (key : HEv → Int) (V : HEv → Prop) (g : Nat → HEv) (hc : CmpAt w0 b c key V) (hw : KeepsTo w0 [b] w) (hD : DatF w b N u n g) (hn : n ≤ 1000) (h1 : a0 ≤ b0) (h2 : b0 ≤ n) (hV : ∀ j, j < n → V (g j)) : Calls Try.prog 28 (denL [.sl 0 b 0 0 n cap 5, .v (.int .i64 a0), .v (.int .i64 b0), .fn (.func 17) [] []]).toArray w (SrtR w b N u n fun g' => SameF key a0 b0 g g' ∧ SortF key a0 b0 g') := by
  obtain ⟨hN, row0, hrep0, hrow0⟩ := hD
  refine enter (F := ⟨w, w.heap.size, [b]⟩) Try.func28 rfl [.sl 0 b 0 0 n cap 5, .v (.int .i64 a0), .v (.int .i64 b0), .fn (.func 17) [] []] [(b, true, .arr 0 N row0 5 u (0, 0))] (by simp [Try.f28, denL, den]) ⟨⟨hrep0, fun _ => .inr (by simp), by simp⟩, trivial⟩ (KeepsTo.refl w _) fun a hr => ?_
  refine seg cfg28_ok mixed PanicFree.body 1000 [] [] hr (by first | trivial | exact HpRep.nil | assumption) (by kernel_rfl) fun s_ hs_ => ?_
  simp (maxSteps := 10000000) [SX.vc, SX.stop, SX.contS, SX.contB, SX.contW, SX.contR, SX.contD, SX.sxStep, SX.stepPure, SX.stepNew, SX.stepStore, SX.stepKeep, SX.guardIx, SX.evOp, SX.opd, SX.opds, SX.optOpd, SX.look, SX.putS, SX.gobs, SX.AllP, SX.leave, SX.lookC, SX.lookB, SX.lookT, SX.lookN, SX.findK, SX.evBuiltin, SX.ints, SX.foldI, SX.evBin, SX.evInt, SX.evStr, SX.evEq, SX.arith, SX.evLoad, SX.shapeUp, SX.evFieldAddr, SX.evField, SX.evIndexAddr, SX.evIndex, SX.evFill, SX.evBuild, SX.szs, SX.cellsV, SX.evNew, SX.evStore, SX.spliceL, SX.SV.cells, SX.evConv, SX.evSlice, SX.bnd, SX.evNil, SX.evUn, SX.evPick, SX.pickOpd, SX.popTo, SX.cnd, SX.env0, SX.TD.isAgg, SX.TD.isIface, SX.tails, SX.NotAgg, SX.evLookup, SX.evConvH, SX.evPtrEq, SX.isCells, SX.thaw, SX.frz, SX.fixB, SX.rootIx, SX.Froz, SX.frzStep, SX.fork, Go.Value.cells, Go.undef, cfg28, Try.f28]
  refine ⟨by (unfold SX.Ob; first | trivial | omega | ((try simp only [SX.inK]); (try simp [SX.den, SX.IsU8, SX.AllP, *]); (try omega))), ?_⟩
  intro a1 w1 hr1 _
  refine post_loop (InLoop1 w b N u n cap c a0 b0 key g) (b0 - (a0 + 1)) ⟨a0 + 1, g, row0, rfl, by omega, by omega, by omega, SameF.refl key a0 b0 g, fun i j hi hij hj => by rw [show i = j by omega]; omega, hrow0, hr1.re (by simp [envTo, SX.look]) hr1.all rfl rfl⟩ ?_
  rintro mm a2 w2 ⟨i, G, row, rfl, hai, hib, hin, hS, hT, hrow, hr2⟩
  have hVG : ∀ j, j < n → V (G j) := fun j hj => by
    by_cases hj2 : a0 ≤ j ∧ j < b0
    · obtain ⟨q, q1, q2, q3⟩ := hS.mem hj2.1 hj2.2
      rw [← q3]; exact hV q (by omega)
    · rw [hS.1 j (by omega)]; exact hV j hj
  by_cases hlt : i < b0
  rotate_left
  · have hlt' : ¬ (i : Int) < (b0 : Int) := by omega
    refine seg cfg28_ok mixed PanicFree.body 1000 [false] [] hr2 (by first | trivial | exact HpRep.nil | assumption) (by kernel_rfl) fun s_ hs_ => ?_
    simp (maxSteps := 10000000) [SX.vc, SX.stop, SX.contS, SX.contB, SX.contW, SX.contR, SX.contD, SX.sxStep, SX.stepPure, SX.stepNew, SX.stepStore, SX.stepKeep, SX.guardIx, SX.evOp, SX.opd, SX.opds, SX.optOpd, SX.look, SX.putS, SX.gobs, SX.AllP, SX.leave, SX.lookC, SX.lookB, SX.lookT, SX.lookN, SX.findK, SX.evBuiltin, SX.ints, SX.foldI, SX.evBin, SX.evInt, SX.evStr, SX.evEq, SX.arith, SX.evLoad, SX.shapeUp, SX.evFieldAddr, SX.evField, SX.evIndexAddr, SX.evIndex, SX.evFill, SX.evBuild, SX.szs, SX.cellsV, SX.evNew, SX.evStore, SX.spliceL, SX.SV.cells, SX.evConv, SX.evSlice, SX.bnd, SX.evNil, SX.evUn, SX.evPick, SX.pickOpd, SX.popTo, SX.cnd, SX.env0, SX.TD.isAgg, SX.TD.isIface, SX.tails, SX.NotAgg, SX.evLookup, SX.evConvH, SX.evPtrEq, SX.isCells, SX.thaw, SX.frz, SX.fixB, SX.rootIx, SX.Froz, SX.frzStep, SX.fork, Go.Value.cells, Go.undef, cfg28, hlt']
    refine ⟨by (unfold SX.Ob; first | trivial | omega | ((try simp only [SX.inK]); (try simp [SX.den, SX.IsU8, SX.AllP, *]); (try omega))), ?_⟩
    intro a3 w3 hr3 _
    refine post_nil (end0 hr3 rfl ⟨rfl, ⟨G, ⟨hN, row, hr3.all.1.1, hrow⟩, hS, fun p q hp hpq hq => hT p q hp hpq (by omega)⟩, hr3.keeps⟩).2
  have hlt' : (i : Int) < (b0 : Int) := by omega
  refine seg cfg28_ok mixed PanicFree.body 1000 [true] [] hr2 (by first | trivial | exact HpRep.nil | assumption) (by kernel_rfl) fun s_ hs_ => ?_
  simp (maxSteps := 10000000) [SX.vc, SX.stop, SX.contS, SX.contB, SX.contW, SX.contR, SX.contD, SX.sxStep, SX.stepPure, SX.stepNew, SX.stepStore, SX.stepKeep, SX.guardIx, SX.evOp, SX.opd, SX.opds, SX.optOpd, SX.look, SX.putS, SX.gobs, SX.AllP, SX.leave, SX.lookC, SX.lookB, SX.lookT, SX.lookN, SX.findK, SX.evBuiltin, SX.ints, SX.foldI, SX.evBin, SX.evInt, SX.evStr, SX.evEq, SX.arith, SX.evLoad, SX.shapeUp, SX.evFieldAddr, SX.evField, SX.evIndexAddr, SX.evIndex, SX.evFill, SX.evBuild, SX.szs, SX.cellsV, SX.evNew, SX.evStore, SX.spliceL, SX.SV.cells, SX.evConv, SX.evSlice, SX.bnd, SX.evNil, SX.evUn, SX.evPick, SX.pickOpd, SX.popTo, SX.cnd, SX.env0, SX.TD.isAgg, SX.TD.isIface, SX.tails, SX.NotAgg, SX.evLookup, SX.evConvH, SX.evPtrEq, SX.isCells, SX.thaw, SX.frz, SX.fixB, SX.rootIx, SX.Froz, SX.frzStep, SX.fork, Go.Value.cells, Go.undef, cfg28, hlt']
  refine ⟨by (unfold SX.Ob; first | trivial | omega | ((try simp only [SX.inK]); (try simp [SX.den, SX.IsU8, SX.AllP, *]); (try omega))), ?_⟩
  intro a3 w3 hr3 _
  refine post_loop (InLoop2 w b N u n cap c a0 b0 i key G) i ⟨i, row, rfl, by omega, by omega, by omega, by rw [rot_id1]; exact hrow, hr3.re (by simp [envTo, SX.look]) hr3.all rfl rfl⟩ ?_
  rintro mm a4 w4 ⟨j, row4, hmj, haj, hji, hgt, hrow4, hr4⟩
  subst hmj
  have fin : (∀ t, a0 ≤ t → t < mm → key (G t) ≤ key (G i)) → SameF key a0 b0 g (rot G mm i (i + 1)) ∧ SortF key a0 (i + 1) (rot G mm i (i + 1)) := fun hle => by
    refine ⟨hS.trans ((SameF.rot hji (by omega) fun p q p1 p2 q1 q2 => ?_).wide haj (by omega) (by omega)), ?_⟩
    · rw [show q = i by omega]; exact hgt p p1 p2
    · refine rot_sorted haj hji (by omega) (Nat.le_refl _) hT (fun p q hp hpq hq => by rw [show p = q by omega]; omega) ?_ ?_ ?_ ?_
      · intro p q p1 p2 q1 q2
        rw [show q = i by omega]; exact hle p p1 p2
      · intro p q p1 p2 q1 q2
        rw [show q = i by omega]; exact hgt p p1 p2
      · intro p q p1 p2 q1 q2; omega
      · intro p q p1 p2 q1 q2; omega
  by_cases hja : mm = a0
  · have hja' : ¬ (a0 : Int) < (mm : Int) := by omega
    refine seg cfg28_ok mixed PanicFree.body 1000 [false] [(21, false)] hr4 (by first | trivial | exact HpRep.nil | assumption) (by kernel_rfl) fun s_ hs_ => ?_
    simp (maxSteps := 10000000) [SX.vc, SX.stop, SX.contS, SX.contB, SX.contW, SX.contR, SX.contD, SX.sxStep, SX.stepPure, SX.stepNew, SX.stepStore, SX.stepKeep, SX.guardIx, SX.evOp, SX.opd, SX.opds, SX.optOpd, SX.look, SX.putS, SX.gobs, SX.AllP, SX.leave, SX.lookC, SX.lookB, SX.lookT, SX.lookN, SX.findK, SX.evBuiltin, SX.ints, SX.foldI, SX.evBin, SX.evInt, SX.evStr, SX.evEq, SX.arith, SX.evLoad, SX.shapeUp, SX.evFieldAddr, SX.evField, SX.evIndexAddr, SX.evIndex, SX.evFill, SX.evBuild, SX.szs, SX.cellsV, SX.evNew, SX.evStore, SX.spliceL, SX.SV.cells, SX.evConv, SX.evSlice, SX.bnd, SX.evNil, SX.evUn, SX.evPick, SX.pickOpd, SX.popTo, SX.cnd, SX.env0, SX.TD.isAgg, SX.TD.isIface, SX.tails, SX.NotAgg, SX.evLookup, SX.evConvH, SX.evPtrEq, SX.isCells, SX.thaw, SX.frz, SX.fixB, SX.rootIx, SX.Froz, SX.frzStep, SX.fork, Go.Value.cells, Go.undef, cfg28, hja']
    refine ⟨by (unfold SX.Ob; first | trivial | omega | ((try simp only [SX.inK]); (try simp [SX.den, SX.IsU8, SX.AllP, *]); (try omega))), ?_⟩
    intro a5 w5 hr5 _
    obtain ⟨f1, f2⟩ := fin fun t t1 t2 => by omega
    exact post_rnd (b0 - (i + 1)) (by omega) ⟨i + 1, _, row4, rfl, by omega, by omega, by omega, f1, f2, hrow4, hr5.re (by simp [envTo, SX.look, den]) hr5.all rfl rfl⟩
  have hja' : (a0 : Int) < (mm : Int) := by omega
  obtain ⟨k, rfl⟩ : ∃ k, mm = k + 1 := ⟨mm - 1, by omega⟩
  obtain ⟨x, hx⟩ : ∃ x, G i = x := ⟨_, rfl⟩
  obtain ⟨y, hy⟩ : ∃ y, G k = y := ⟨_, rfl⟩
  have hxr : rot G (k + 1) i (i + 1) (k + 1) = x := by
    rw [rot_left (by omega) (by omega), ← hx]
    congr 1
    omega
  have hyr : rot G (k + 1) i (i + 1) k = y := by rw [rot_out (by omega) (by omega) (by omega), hy]
  obtain ⟨p, hp⟩ : ∃ p, p = k + 1 := ⟨_, rfl⟩
  rw [← hp] at hr4 hja' hxr hyr hrow4 hgt fin hji haj
  have hrp : row4 p = [.v (.int .i64 x.at_), .v (.int .i64 x.lba), .v (.bool x.rd), .v (.int .i64 x.ver), .v (.int .u8 x.by_)] := by rw [hrow4 p (by omega), hxr]; rfl
  have hrk : row4 k = [.v (.int .i64 y.at_), .v (.int .i64 y.lba), .v (.bool y.rd), .v (.int .i64 y.ver), .v (.int .u8 y.by_)] := by rw [hrow4 k (by omega), hyr]; rfl
  have hpk : (p : Int) - 1 = (k : Int) := by omega
  have hpn : p < n := by omega
  have hkn : k < n := by omega
  refine seg cfg28_ok mixed PanicFree.body 1000 [] [(21, true)] hr4 (by first | trivial | exact HpRep.nil | assumption) (by kernel_rfl) fun s_ hs_ => ?_
  simp (maxSteps := 10000000) [SX.vc, SX.stop, SX.contS, SX.contB, SX.contW, SX.contR, SX.contD, SX.sxStep, SX.stepPure, SX.stepNew, SX.stepStore, SX.stepKeep, SX.guardIx, SX.evOp, SX.opd, SX.opds, SX.optOpd, SX.look, SX.putS, SX.gobs, SX.AllP, SX.leave, SX.lookC, SX.lookB, SX.lookT, SX.lookN, SX.findK, SX.evBuiltin, SX.ints, SX.foldI, SX.evBin, SX.evInt, SX.evStr, SX.evEq, SX.arith, SX.evLoad, SX.shapeUp, SX.evFieldAddr, SX.evField, SX.evIndexAddr, SX.evIndex, SX.evFill, SX.evBuild, SX.szs, SX.cellsV, SX.evNew, SX.evStore, SX.spliceL, SX.SV.cells, SX.evConv, SX.evSlice, SX.bnd, SX.evNil, SX.evUn, SX.evPick, SX.pickOpd, SX.popTo, SX.cnd, SX.env0, SX.TD.isAgg, SX.TD.isIface, SX.tails, SX.NotAgg, SX.evLookup, SX.evConvH, SX.evPtrEq, SX.isCells, SX.thaw, SX.frz, SX.fixB, SX.rootIx, SX.Froz, SX.frzStep, SX.fork, Go.Value.cells, Go.undef, cfg28, hja', hrp, hrk, hpk, hpn, hkn]
  refine ⟨by (unfold SX.Ob; first | trivial | omega | ((try simp only [SX.inK]); (try simp [SX.den, SX.IsU8, SX.AllP, *]); (try omega))), ?_⟩
  intro a5 w5 hr5 ht5
  refine post_callD 17 [.ag [.v (.int .i64 x.at_), .v (.int .i64 x.lba), .v (.bool x.rd), .v (.int .i64 x.ver), .v (.int .u8 x.by_)], .ag [.v (.int .i64 y.at_), .v (.int .i64 y.lba), .v (.bool y.rd), .v (.int .i64 y.ver), .v (.int .u8 y.by_)]] hr5 rfl (by first | exact wanted_none rfl | exact wanted_zero (hr5.env.same rfl rfl rfl rfl) rfl (by simp) | exact wanted_zero (hr5.env.same rfl rfl rfl rfl) rfl (by simp [*])) rfl (callable 17 Try.func17) (hc w5 (KeepsTo.more hw hr5.keeps) x y (hx ▸ hVG i (by omega)) (hy ▸ hVG k hkn)) ?_
  rintro e6 w6 ⟨⟨r, rfl, hrr⟩, hb6⟩
  have ht6 := HpRep_below ht5 hb6
  refine ⟨_, rfl, ht6, ?_⟩
  have h6 := hr5.ret hb6 32 (.v (.int .i64 r)) rfl _ (hr5.all.below hb6) (by simp) rfl
  by_cases hr0 : r < 0
  · have hlt2 : key x < key y := hrr.1 hr0
    have hpk2 : p ≠ k := by omega
    have hkp : k ≠ p := by omega
    have hrk' : setRow row4 p [.v (.int .i64 y.at_), .v (.int .i64 y.lba), .v (.bool y.rd), .v (.int .i64 y.ver), .v (.int .u8 y.by_)] k = [.v (.int .i64 y.at_), .v (.int .i64 y.lba), .v (.bool y.rd), .v (.int .i64 y.ver), .v (.int .u8 y.by_)] := by unfold setRow; rw [if_neg hkp, hrk]
    refine seg cfg28_ok mixed PanicFree.body 1000 [true] [(21, true)] h6 (by first | trivial | exact HpRep.nil | assumption) (by kernel_rfl) fun s_ hs_ => ?_
    simp (maxSteps := 10000000) [SX.vc, SX.stop, SX.contS, SX.contB, SX.contW, SX.contR, SX.contD, SX.sxStep, SX.stepPure, SX.stepNew, SX.stepStore, SX.stepKeep, SX.guardIx, SX.evOp, SX.opd, SX.opds, SX.optOpd, SX.look, SX.putS, SX.gobs, SX.AllP, SX.leave, SX.lookC, SX.lookB, SX.lookT, SX.lookN, SX.findK, SX.evBuiltin, SX.ints, SX.foldI, SX.evBin, SX.evInt, SX.evStr, SX.evEq, SX.arith, SX.evLoad, SX.shapeUp, SX.evFieldAddr, SX.evField, SX.evIndexAddr, SX.evIndex, SX.evFill, SX.evBuild, SX.szs, SX.cellsV, SX.evNew, SX.evStore, SX.spliceL, SX.SV.cells, SX.evConv, SX.evSlice, SX.bnd, SX.evNil, SX.evUn, SX.evPick, SX.pickOpd, SX.popTo, SX.cnd, SX.env0, SX.TD.isAgg, SX.TD.isIface, SX.tails, SX.NotAgg, SX.evLookup, SX.evConvH, SX.evPtrEq, SX.isCells, SX.thaw, SX.frz, SX.fixB, SX.rootIx, SX.Froz, SX.frzStep, SX.fork, Go.Value.cells, Go.undef, cfg28, hr0, hrp, hrk, hrk', hpk, hpn, hkn]
    refine ⟨by (unfold SX.Ob; first | trivial | omega | ((try simp only [SX.inK]); (try simp [SX.den, SX.IsU8, SX.AllP, *]); (try omega))), ?_⟩
    intro a7 w7 hr7 _
    have hst := swp_down (g := G) (k := k) (m := i) (by omega)
    exact post_rnd k (by omega) ⟨k, _, rfl, by omega, by omega, fun t t1 t2 => (by
      by_cases htk : t = k
      · subst htk; rw [hx, hy]; exact hlt2
      · exact hgt t (by omega) t2), by rw [← hst, ← hp]; exact swp_row hrow4 hpk2 hyr hxr, hr7.re (by simp [envTo, SX.look, den]) hr7.all rfl rfl⟩
  · have hge : key y ≤ key x := by
      have h := mt hrr.2 hr0
      omega
    refine seg cfg28_ok mixed PanicFree.body 1000 [false] [(21, true)] h6 (by first | trivial | exact HpRep.nil | assumption) (by kernel_rfl) fun s_ hs_ => ?_
    simp (maxSteps := 10000000) [SX.vc, SX.stop, SX.contS, SX.contB, SX.contW, SX.contR, SX.contD, SX.sxStep, SX.stepPure, SX.stepNew, SX.stepStore, SX.stepKeep, SX.guardIx, SX.evOp, SX.opd, SX.opds, SX.optOpd, SX.look, SX.putS, SX.gobs, SX.AllP, SX.leave, SX.lookC, SX.lookB, SX.lookT, SX.lookN, SX.findK, SX.evBuiltin, SX.ints, SX.foldI, SX.evBin, SX.evInt, SX.evStr, SX.evEq, SX.arith, SX.evLoad, SX.shapeUp, SX.evFieldAddr, SX.evField, SX.evIndexAddr, SX.evIndex, SX.evFill, SX.evBuild, SX.szs, SX.cellsV, SX.evNew, SX.evStore, SX.spliceL, SX.SV.cells, SX.evConv, SX.evSlice, SX.bnd, SX.evNil, SX.evUn, SX.evPick, SX.pickOpd, SX.popTo, SX.cnd, SX.env0, SX.TD.isAgg, SX.TD.isIface, SX.tails, SX.NotAgg, SX.evLookup, SX.evConvH, SX.evPtrEq, SX.isCells, SX.thaw, SX.frz, SX.fixB, SX.rootIx, SX.Froz, SX.frzStep, SX.fork, Go.Value.cells, Go.undef, cfg28, hr0]
    refine ⟨by (unfold SX.Ob; first | trivial | omega | ((try simp only [SX.inK]); (try simp [SX.den, SX.IsU8, SX.AllP, *]); (try omega))), ?_⟩
    intro a7 w7 hr7 _
    obtain ⟨f1, f2⟩ := fin fun t t1 t2 => (by
      have h := hT t k t1 (by omega) (by omega)
      rw [hy] at h
      rw [hx]
      omega)
    exact post_rnd (b0 - (i + 1)) (by omega) ⟨i + 1, _, row4, rfl, by omega, by omega, by omega, f1, f2, hrow4, hr7.re (by simp [envTo, SX.look, den]) hr7.all rfl rfl⟩
end Go.Proofs
