/- The client's values; what asks nothing of it. -/
import Derived.Test.YtjkecmgobcppiaaKT
namespace Go.Proofs
set_option linter.unusedVariables false
set_option linter.unusedSimpArgs false
open Go Go.SX Go.RowKit

theorem callable (n : Nat) {fn : Func} (h : Try.prog.funcs[n]? = some fn) (h2 : (fn.name == "runtime.NumGoroutine") = false := by kernel_rfl) (h3 : fn.body.isNone = false := by kernel_rfl) : Callable Try.prog n := ⟨fn, h, h2, h3⟩

structure Act7 where
  do_ : Int
  host : Int
  zone : Int
  lba : Int
  n : Int
  by_ : Int
  keep : Int

structure Cl where
  name : Int
  next : Int
  opn : Bool
  id : Int
  act : Act7
  life : Int
  tries : Int
  done : Value

def actC (a : Act7) : List SV := [.v (.int .i64 a.do_), .v (.int .i64 a.host), .v (.int .i64 a.zone), .v (.int .i64 a.lba), .v (.int .i64 a.n), .v (.int .u8 a.by_), .v (.int .i64 a.keep)]
def clC (c : Cl) : List SV := [.v (.int .i64 c.name), .v (.int .i64 c.next), .v (.bool c.opn), .v (.int .i64 c.id), .v (.int .i64 c.act.do_), .v (.int .i64 c.act.host), .v (.int .i64 c.act.zone), .v (.int .i64 c.act.lba), .v (.int .i64 c.act.n), .v (.int .u8 c.act.by_), .v (.int .i64 c.act.keep), .v (.int .i64 c.life), .v (.int .i64 c.tries), .v c.done]
def msgC (kind from_ to_ id : Int) (args data : Value) : List SV := [.v (.int .i64 kind), .v (.int .i64 from_), .v (.int .i64 to_), .v (.int .i64 id), .v args, .v data]

/-- Numbers in a row. -/
def Ints (w : World) (v : Value) (n : Nat) (g : Nat → Int) : Prop :=
  (n = 0 ∧ ∃ a cap, v = .slice a 0 cap) ∨
  (0 < n ∧ ∃ (b o0 N cap : Nat) (u : TypeId) (fz : Nat × Nat), v = .slice (some ⟨b, o0, none⟩) n cap ∧ n ≤ N ∧ (SO.arr o0 N (fun j => [.v (.int .i64 (g j))]) 1 u fz).rep w b)

theorem Ints.keep {w w' : World} {v : Value} {n : Nat} {g : Nat → Int} (h : Ints w v n g) (hb : Below w.heap.size w w') : Ints w' v n g := by
  rcases h with h | ⟨h0, b, o0, N, cap, u, fz, h1, h2, h3⟩
  · exact .inl h
  · exact .inr ⟨h0, b, o0, N, cap, u, fz, h1, h2, SO.rep_same h3 (hb.block _ (SO.rep_lt h3))⟩

def InNil (w : World) (m : Nat) (a : Act) (w' : World) : Prop :=
  m = 0 ∧ RepX (frame0 w) ⟨[(9, 0, .v (.int .i64 0)), (8, 0, .v (.int .i64 0)), (4, 0, .v (.bool false))], [], 0, 0, 17, [], [], []⟩ a w'
def InLoop (w : World) (n b o0 N cap : Nat) (u : TypeId) (fz : Nat × Nat) (g : Nat → Int) (x : Int) (m : Nat) (a : Act) (w' : World) : Prop :=
  ∃ k : Nat, m = n - k ∧ k ≤ n ∧ (∀ j, j < k → g j ≠ x) ∧ RepX (frame0 w) ⟨[(9, 0, .v (.int .i64 k)), (8, 0, .v (.int .i64 n)), (7, 0, .sl 0 b o0 0 n cap 1), (4, 0, .v (.bool false)), (1, 0, .v (.int .i64 x))], [(b, false, .arr o0 N (fun j => [.v (.int .i64 (g j))]) 1 u fz)], 0, 0, 17, [], [], []⟩ a w'

def InPost (w : World) (n : Nat) (g : Nat → Int) (x : Int) (e : Ending) (w' : World) : Prop := ∃ t : Bool, e = .returned (.bool t) ∧ (t = true ↔ ∃ j, j < n ∧ g j = x) ∧ Below w.heap.size w w'

set_option maxRecDepth 100000 in
set_option maxHeartbeats 8000000 in
theorem in_ok (w : World) (v : Value) (n : Nat) (g : Nat → Int) (x : Int) (hv : Ints w v n g) (hn : n ≤ 9223372036854775807) : Calls Try.prog 10 (denL [.v v, .v (.int .i64 x)]).toArray w (InPost w n g x) := by
  rcases hv with ⟨rfl, ad, cap, rfl⟩ | ⟨h0, b, o0, N, cap, u, fz, rfl, h2, h3⟩
  · refine enter (F := frame0 w) Try.func10 rfl [.v (.slice ad 0 cap), .v (.int .i64 x)] [] (by simp [Try.f10]) trivial (keeps0 w) fun a hr => ?_
    refine seg cfg10_ok mixed PanicFree.body 1000 [] [] hr (by first | trivial | exact HpRep.nil | assumption) (by kernel_rfl) fun s_ hs_ => ?_
    simp (maxSteps := 10000000) [SX.vc, SX.stop, SX.contS, SX.contB, SX.contW, SX.contR, SX.contD, SX.sxStep, SX.stepPure, SX.stepNew, SX.stepStore, SX.stepKeep, SX.guardIx, SX.evOp, SX.opd, SX.opds, SX.optOpd, SX.look, SX.putS, SX.gobs, SX.AllP, SX.leave, SX.lookC, SX.lookB, SX.lookT, SX.lookN, SX.findK, SX.evBuiltin, SX.ints, SX.foldI, SX.evBin, SX.evInt, SX.evStr, SX.evEq, SX.arith, SX.evLoad, SX.shapeUp, SX.evFieldAddr, SX.evField, SX.evIndexAddr, SX.evIndex, SX.evFill, SX.evBuild, SX.szs, SX.cellsV, SX.evNew, SX.evStore, SX.spliceL, SX.SV.cells, SX.evConv, SX.evSlice, SX.bnd, SX.evNil, SX.evUn, SX.evPick, SX.pickOpd, SX.popTo, SX.cnd, SX.env0, SX.TD.isAgg, SX.TD.isIface, SX.tails, SX.NotAgg, SX.evLookup, SX.evConvH, SX.evPtrEq, SX.isCells, SX.thaw, SX.frz, SX.fixB, SX.rootIx, SX.Froz, SX.frzStep, SX.fork, Go.Value.cells, Go.undef, cfg10, Try.f10]
    refine ⟨by (unfold SX.Ob; first | trivial | omega | ((try simp only [SX.inK]); (try simp [SX.den, SX.IsU8, *]); (try omega))), ?_⟩
    intro a1 w1 hr1 _
    refine post_loop (InNil w) 0 ⟨rfl, hr1.re (by simp [envTo, SX.look]) trivial rfl rfl⟩ ?_
    rintro m a2 w2 ⟨rfl, hr2⟩
    refine seg cfg10_ok mixed PanicFree.body 1000 [false] [] hr2 (by first | trivial | exact HpRep.nil | assumption) (by kernel_rfl) fun s_ hs_ => ?_
    simp (maxSteps := 10000000) [SX.vc, SX.stop, SX.contS, SX.contB, SX.contW, SX.contR, SX.contD, SX.sxStep, SX.stepPure, SX.stepNew, SX.stepStore, SX.stepKeep, SX.guardIx, SX.evOp, SX.opd, SX.opds, SX.optOpd, SX.look, SX.putS, SX.gobs, SX.AllP, SX.leave, SX.lookC, SX.lookB, SX.lookT, SX.lookN, SX.findK, SX.evBuiltin, SX.ints, SX.foldI, SX.evBin, SX.evInt, SX.evStr, SX.evEq, SX.arith, SX.evLoad, SX.shapeUp, SX.evFieldAddr, SX.evField, SX.evIndexAddr, SX.evIndex, SX.evFill, SX.evBuild, SX.szs, SX.cellsV, SX.evNew, SX.evStore, SX.spliceL, SX.SV.cells, SX.evConv, SX.evSlice, SX.bnd, SX.evNil, SX.evUn, SX.evPick, SX.pickOpd, SX.popTo, SX.cnd, SX.env0, SX.TD.isAgg, SX.TD.isIface, SX.tails, SX.NotAgg, SX.evLookup, SX.evConvH, SX.evPtrEq, SX.isCells, SX.thaw, SX.frz, SX.fixB, SX.rootIx, SX.Froz, SX.frzStep, SX.fork, Go.Value.cells, Go.undef, cfg10]
    refine ⟨by (unfold SX.Ob; first | trivial | omega | ((try simp only [SX.inK]); (try simp [SX.den, SX.IsU8, *]); (try omega))), ?_⟩
    intro a3 w3 hr3 _
    exact post_retn (end1 hr3 rfl rfl ⟨false, rfl, by simp, hr3.keeps.toBelow⟩).1
  · have hE : HpAll (frame0 w) w [(b, false, .arr o0 N (fun j => [.v (.int .i64 (g j))]) 1 u fz)] := ⟨⟨h3, by simp, by simp⟩, trivial⟩
    refine enter (F := frame0 w) Try.func10 rfl [.sl 0 b o0 0 n cap 1, .v (.int .i64 x)] _ (by simp [Try.f10]) hE (keeps0 w) fun a hr => ?_
    refine seg cfg10_ok mixed PanicFree.body 1000 [] [] hr (by first | trivial | exact HpRep.nil | assumption) (by kernel_rfl) fun s_ hs_ => ?_
    simp (maxSteps := 10000000) [SX.vc, SX.stop, SX.contS, SX.contB, SX.contW, SX.contR, SX.contD, SX.sxStep, SX.stepPure, SX.stepNew, SX.stepStore, SX.stepKeep, SX.guardIx, SX.evOp, SX.opd, SX.opds, SX.optOpd, SX.look, SX.putS, SX.gobs, SX.AllP, SX.leave, SX.lookC, SX.lookB, SX.lookT, SX.lookN, SX.findK, SX.evBuiltin, SX.ints, SX.foldI, SX.evBin, SX.evInt, SX.evStr, SX.evEq, SX.arith, SX.evLoad, SX.shapeUp, SX.evFieldAddr, SX.evField, SX.evIndexAddr, SX.evIndex, SX.evFill, SX.evBuild, SX.szs, SX.cellsV, SX.evNew, SX.evStore, SX.spliceL, SX.SV.cells, SX.evConv, SX.evSlice, SX.bnd, SX.evNil, SX.evUn, SX.evPick, SX.pickOpd, SX.popTo, SX.cnd, SX.env0, SX.TD.isAgg, SX.TD.isIface, SX.tails, SX.NotAgg, SX.evLookup, SX.evConvH, SX.evPtrEq, SX.isCells, SX.thaw, SX.frz, SX.fixB, SX.rootIx, SX.Froz, SX.frzStep, SX.fork, Go.Value.cells, Go.undef, cfg10, Try.f10]
    refine ⟨by (unfold SX.Ob; first | trivial | omega | ((try simp only [SX.inK]); (try simp [SX.den, SX.IsU8, *]); (try omega))), ?_⟩
    intro a1 w1 hr1 _
    refine post_loop (InLoop w n b o0 N cap u fz g x) n ⟨0, rfl, by omega, by omega, hr1.re (by simp [envTo, SX.look]) hr1.all rfl rfl⟩ ?_
    rintro m a2 w2 ⟨k, rfl, hk, hno, hr2⟩
    by_cases hlt : k < n
    · by_cases hg : g k = x
      · refine seg cfg10_ok mixed PanicFree.body 1000 [true, true] [] hr2 (by first | trivial | exact HpRep.nil | assumption) (by kernel_rfl) fun s_ hs_ => ?_
        simp (maxSteps := 10000000) [SX.vc, SX.stop, SX.contS, SX.contB, SX.contW, SX.contR, SX.contD, SX.sxStep, SX.stepPure, SX.stepNew, SX.stepStore, SX.stepKeep, SX.guardIx, SX.evOp, SX.opd, SX.opds, SX.optOpd, SX.look, SX.putS, SX.gobs, SX.AllP, SX.leave, SX.lookC, SX.lookB, SX.lookT, SX.lookN, SX.findK, SX.evBuiltin, SX.ints, SX.foldI, SX.evBin, SX.evInt, SX.evStr, SX.evEq, SX.arith, SX.evLoad, SX.shapeUp, SX.evFieldAddr, SX.evField, SX.evIndexAddr, SX.evIndex, SX.evFill, SX.evBuild, SX.szs, SX.cellsV, SX.evNew, SX.evStore, SX.spliceL, SX.SV.cells, SX.evConv, SX.evSlice, SX.bnd, SX.evNil, SX.evUn, SX.evPick, SX.pickOpd, SX.popTo, SX.cnd, SX.env0, SX.TD.isAgg, SX.TD.isIface, SX.tails, SX.NotAgg, SX.evLookup, SX.evConvH, SX.evPtrEq, SX.isCells, SX.thaw, SX.frz, SX.fixB, SX.rootIx, SX.Froz, SX.frzStep, SX.fork, Go.Value.cells, Go.undef, cfg10, hg]
        refine ⟨by (unfold SX.Ob; first | trivial | omega | ((try simp only [SX.inK]); (try simp [SX.den, SX.IsU8, *]); (try omega))), ?_⟩
        intro a3 w3 hr3 _
        exact post_retn (end1 hr3 rfl rfl ⟨true, rfl, by simpa using ⟨k, hlt, hg⟩, hr3.keeps.toBelow⟩).1
      · refine seg cfg10_ok mixed PanicFree.body 1000 [true, false] [] hr2 (by first | trivial | exact HpRep.nil | assumption) (by kernel_rfl) fun s_ hs_ => ?_
        simp (maxSteps := 10000000) [SX.vc, SX.stop, SX.contS, SX.contB, SX.contW, SX.contR, SX.contD, SX.sxStep, SX.stepPure, SX.stepNew, SX.stepStore, SX.stepKeep, SX.guardIx, SX.evOp, SX.opd, SX.opds, SX.optOpd, SX.look, SX.putS, SX.gobs, SX.AllP, SX.leave, SX.lookC, SX.lookB, SX.lookT, SX.lookN, SX.findK, SX.evBuiltin, SX.ints, SX.foldI, SX.evBin, SX.evInt, SX.evStr, SX.evEq, SX.arith, SX.evLoad, SX.shapeUp, SX.evFieldAddr, SX.evField, SX.evIndexAddr, SX.evIndex, SX.evFill, SX.evBuild, SX.szs, SX.cellsV, SX.evNew, SX.evStore, SX.spliceL, SX.SV.cells, SX.evConv, SX.evSlice, SX.bnd, SX.evNil, SX.evUn, SX.evPick, SX.pickOpd, SX.popTo, SX.cnd, SX.env0, SX.TD.isAgg, SX.TD.isIface, SX.tails, SX.NotAgg, SX.evLookup, SX.evConvH, SX.evPtrEq, SX.isCells, SX.thaw, SX.frz, SX.fixB, SX.rootIx, SX.Froz, SX.frzStep, SX.fork, Go.Value.cells, Go.undef, cfg10, hg]
        refine ⟨by (unfold SX.Ob; first | trivial | omega | ((try simp only [SX.inK]); (try simp [SX.den, SX.IsU8, *]); (try omega))), ?_⟩
        intro a3 w3 hr3 _
        exact post_rnd (n - (k + 1)) (by omega) ⟨k + 1, rfl, hlt, fun j hj => by
          by_cases hjk : j = k
          · subst hjk; exact hg
          · exact hno j (by omega), hr3.re (by simp [envTo, SX.look, den]) hr3.all rfl rfl⟩
    · obtain rfl : k = n := by omega
      refine seg cfg10_ok mixed PanicFree.body 1000 [false] [] hr2 (by first | trivial | exact HpRep.nil | assumption) (by kernel_rfl) fun s_ hs_ => ?_
      simp (maxSteps := 10000000) [SX.vc, SX.stop, SX.contS, SX.contB, SX.contW, SX.contR, SX.contD, SX.sxStep, SX.stepPure, SX.stepNew, SX.stepStore, SX.stepKeep, SX.guardIx, SX.evOp, SX.opd, SX.opds, SX.optOpd, SX.look, SX.putS, SX.gobs, SX.AllP, SX.leave, SX.lookC, SX.lookB, SX.lookT, SX.lookN, SX.findK, SX.evBuiltin, SX.ints, SX.foldI, SX.evBin, SX.evInt, SX.evStr, SX.evEq, SX.arith, SX.evLoad, SX.shapeUp, SX.evFieldAddr, SX.evField, SX.evIndexAddr, SX.evIndex, SX.evFill, SX.evBuild, SX.szs, SX.cellsV, SX.evNew, SX.evStore, SX.spliceL, SX.SV.cells, SX.evConv, SX.evSlice, SX.bnd, SX.evNil, SX.evUn, SX.evPick, SX.pickOpd, SX.popTo, SX.cnd, SX.env0, SX.TD.isAgg, SX.TD.isIface, SX.tails, SX.NotAgg, SX.evLookup, SX.evConvH, SX.evPtrEq, SX.isCells, SX.thaw, SX.frz, SX.fixB, SX.rootIx, SX.Froz, SX.frzStep, SX.fork, Go.Value.cells, Go.undef, cfg10]
      refine ⟨by (unfold SX.Ob; first | trivial | omega | ((try simp only [SX.inK]); (try simp [SX.den, SX.IsU8, *]); (try omega))), ?_⟩
      intro a3 w3 hr3 _
      exact post_retn (end1 hr3 rfl rfl ⟨false, rfl, by simpa using fun j hj => hno j hj, hr3.keeps.toBelow⟩).1

end Go.Proofs
