/- Leases: some; good; Tick. -/
import Derived.Test.YtnabelpgmcenlaaLF
import Derived.Test.YtnabelpgmcenlaaLE
namespace Go.Proofs
set_option linter.unusedVariables false
set_option linter.unusedSimpArgs false
open Go Go.SX Go.RowKit

def someL (t : Tab) (p : Lse → Bool) : List Lse := if ChkT t then t.L.filter p else []
theorem keep_not {p : Lse → Bool} {L : List Lse} : keepL (fun x => !p x) L = L.filter p := by
  unfold keepL
  simp

set_option maxRecDepth 100000 in
set_option maxHeartbeats 8000000 in
/-- some. -/
theorem some_ok {P : Nat → Prop} (g : Nat) (p : Lse → Bool) (w : World) (v : Value) (t : Tab) (c : Nat) (hL : RdL P w v t.L) (hn : t.L.length ≤ 1000000) (hcg : Callable Try.prog g)
    (hg : ∀ w' x, Below w.heap.size w w' → Calls Try.prog g (denL [.ag (lseC x), .ptr 0 c 0]).toArray w' (Ret w' (.v (.bool (p x))))) : Calls Try.prog 30 (denL [.ag (tabC t v), .fn (.func g) [] [.ptr 0 c 0]]).toArray w (OwR w (someL t p)) := by
  refine enter (F := frame0 w) Try.func30 rfl [.ag (tabC t v), .fn (.func g) [] [.ptr 0 c 0]] [] (by simp [Try.f30]) trivial (keeps0 w) fun a hr => ?_
  refine seg cfg30_ok mixed PanicFree.body 1000 [] [] hr (by first | trivial | exact HpRep.nil | assumption) (by kernel_rfl) fun sA hsA => ?_
  simp (maxSteps := 10000000) [SX.vc, SX.stop, SX.contS, SX.contB, SX.contW, SX.contR, SX.contD, SX.sxStep, SX.stepPure, SX.stepNew, SX.stepStore, SX.stepKeep, SX.guardIx, SX.evOp, SX.opd, SX.opds, SX.optOpd, SX.look, SX.putS, SX.gobs, SX.AllP, SX.leave, SX.lookC, SX.lookB, SX.lookT, SX.lookN, SX.findK, SX.evBuiltin, SX.ints, SX.foldI, SX.evBin, SX.evInt, SX.evStr, SX.evEq, SX.arith, SX.evLoad, SX.shapeUp, SX.evFieldAddr, SX.evField, SX.evIndexAddr, SX.evIndex, SX.evFill, SX.evBuild, SX.szs, SX.cellsV, SX.evNew, SX.evStore, SX.spliceL, SX.SV.cells, SX.evConv, SX.evSlice, SX.bnd, SX.evNil, SX.evUn, SX.evPick, SX.pickOpd, SX.popTo, SX.cnd, SX.env0, SX.TD.isAgg, SX.TD.isIface, SX.tails, SX.NotAgg, SX.evLookup, SX.evConvH, SX.evPtrEq, SX.isCells, SX.thaw, SX.frz, SX.fixB, SX.rootIx, SX.Froz, SX.frzStep, SX.fork, Go.Value.cells, Go.undef, cfg30, Try.f30, tabC]
  refine ⟨by (unfold SX.Ob; first | trivial | omega | ((try simp only [SX.inK]); (try simp [SX.den, SX.IsU8, SX.AllP, *]); (try omega))), ?_⟩
  intro a1 w1 hr1 _
  have hA1 := hr1.all
  have hsA : sA + 1 < w1.heap.size := SO.rep_lt hA1.2.1.1
  have h1 := hr1.see [(sA, false, .cells (tabC t v) 24), (sA + 1, false, .cells [.fn (.func g) [] [.ptr 0 c 0]] 59)] ⟨⟨hA1.1.1, by simp, by simp⟩, ⟨hA1.2.1.1, by simp, by simp⟩, trivial⟩
  have hb1 : Below w.heap.size w w1 := hr1.keeps.toBelow
  have z1 : w.heap.size ≤ w1.heap.size := hr1.keeps.size
  have hL1 := hL.below hb1
  have hq : ∀ w' x, Below w1.heap.size w1 w' → Calls Try.prog 50 (denL [.ag (lseC x), .ptr 0 (sA + 1) 0]).toArray w' (Ret w' (.v (.bool (!p x)))) := fun w' x hb =>
    some1_ok g p w' x c (sA + 1) (SO.rep_same hA1.2.1.1 (hb.block _ hsA)) hcg fun w'' hb' => hg w'' x (Below.more (Below.more hb1 (KeepsTo.below hb []) (by simp)) (KeepsTo.below hb' []) (by simp))
  refine post_call 25 [.ag [.v (.int .i64 t.last), .v (.int .i64 t.now), .v v]] h1.rebase (by first | exact wanted_none rfl | exact wanted_zero (h1.rebase.env.same rfl rfl rfl rfl) rfl (by simp) | exact wanted_zero (h1.rebase.env.same rfl rfl rfl rfl) rfl (by simp [*])) rfl (callable 25 Try.func25) (check_ok w1 v t hL1 (by omega)) ?_
  rintro e2 w2 ⟨rfl, hb2⟩
  refine ⟨_, rfl, ?_⟩
  have h2 := h1.rebase.ret hb2 6 (.v (.int .i64 (chkT t))) rfl _ (h1.rebase.all.below hb2) (by simp) rfl
  by_cases hC : ChkT t
  rotate_left
  · have hc : chkT t = 1 := if_neg hC
    have hS : someL t p = [] := if_neg hC
    refine seg cfg30_ok mixed PanicFree.body 1000 [true] [] h2 (by first | trivial | exact HpRep.nil | assumption) (by kernel_rfl) fun s_ hs_ => ?_
    simp (maxSteps := 10000000) [SX.vc, SX.stop, SX.contS, SX.contB, SX.contW, SX.contR, SX.contD, SX.sxStep, SX.stepPure, SX.stepNew, SX.stepStore, SX.stepKeep, SX.guardIx, SX.evOp, SX.opd, SX.opds, SX.optOpd, SX.look, SX.putS, SX.gobs, SX.AllP, SX.leave, SX.lookC, SX.lookB, SX.lookT, SX.lookN, SX.findK, SX.evBuiltin, SX.ints, SX.foldI, SX.evBin, SX.evInt, SX.evStr, SX.evEq, SX.arith, SX.evLoad, SX.shapeUp, SX.evFieldAddr, SX.evField, SX.evIndexAddr, SX.evIndex, SX.evFill, SX.evBuild, SX.szs, SX.cellsV, SX.evNew, SX.evStore, SX.spliceL, SX.SV.cells, SX.evConv, SX.evSlice, SX.bnd, SX.evNil, SX.evUn, SX.evPick, SX.pickOpd, SX.popTo, SX.cnd, SX.env0, SX.TD.isAgg, SX.TD.isIface, SX.tails, SX.NotAgg, SX.evLookup, SX.evConvH, SX.evPtrEq, SX.isCells, SX.thaw, SX.frz, SX.fixB, SX.rootIx, SX.Froz, SX.frzStep, SX.fork, Go.Value.cells, Go.undef, cfg30, hc]
    refine ⟨by (unfold SX.Ob; first | trivial | omega | ((try simp only [SX.inK]); (try simp [SX.den, SX.IsU8, SX.AllP, *]); (try omega))), ?_⟩
    intro a3 w3 hr3' _
    have hr3 := h1.unbase hr3'
    exact post_retn (end1 hr3 rfl rfl ⟨_, rfl, by rw [hS]; exact OwS.nil, hr3.keeps.toBelow⟩).1
  have hc : chkT t = 0 := if_pos hC
  have hS : someL t p = t.L.filter p := if_pos hC
  refine seg cfg30_ok mixed PanicFree.body 1000 [false] [] h2 (by first | trivial | exact HpRep.nil | assumption) (by kernel_rfl) fun s_ hs_ => ?_
  simp (maxSteps := 10000000) [SX.vc, SX.stop, SX.contS, SX.contB, SX.contW, SX.contR, SX.contD, SX.sxStep, SX.stepPure, SX.stepNew, SX.stepStore, SX.stepKeep, SX.guardIx, SX.evOp, SX.opd, SX.opds, SX.optOpd, SX.look, SX.putS, SX.gobs, SX.AllP, SX.leave, SX.lookC, SX.lookB, SX.lookT, SX.lookN, SX.findK, SX.evBuiltin, SX.ints, SX.foldI, SX.evBin, SX.evInt, SX.evStr, SX.evEq, SX.arith, SX.evLoad, SX.shapeUp, SX.evFieldAddr, SX.evField, SX.evIndexAddr, SX.evIndex, SX.evFill, SX.evBuild, SX.szs, SX.cellsV, SX.evNew, SX.evStore, SX.spliceL, SX.SV.cells, SX.evConv, SX.evSlice, SX.bnd, SX.evNil, SX.evUn, SX.evPick, SX.pickOpd, SX.popTo, SX.cnd, SX.env0, SX.TD.isAgg, SX.TD.isIface, SX.tails, SX.NotAgg, SX.evLookup, SX.evConvH, SX.evPtrEq, SX.isCells, SX.thaw, SX.frz, SX.fixB, SX.rootIx, SX.Froz, SX.frzStep, SX.fork, Go.Value.cells, Go.undef, cfg30, hc, tabC]
  refine ⟨by (unfold SX.Ob; first | trivial | omega | ((try simp only [SX.inK]); (try simp [SX.den, SX.IsU8, SX.AllP, *]); (try omega))), ?_⟩
  intro a3 w3 hr3' _
  have hb3 : Below w1.heap.size w1 w3 := Keeps.toBelow hr3'.keeps
  refine post_call 42 [.v v] hr3' (by first | exact wanted_none rfl | exact wanted_zero (hr3'.env.same rfl rfl rfl rfl) rfl (by simp) | exact wanted_zero (hr3'.env.same rfl rfl rfl rfl) rfl (by simp [*])) rfl (callable 42 Try.func42) (clone_all w3 v t.L (hL1.below hb3) hn) ?_
  rintro e4 w4 ⟨v4, rfl, hO4, hb4⟩
  refine ⟨_, rfl, ?_⟩
  have h4 := hr3'.ret hb4 10 (.v v4) rfl _ (hr3'.all.below hb4) (by simp) rfl
  refine seg cfg30_ok mixed PanicFree.body 1000 [] [] h4.rebase (by first | trivial | exact HpRep.nil | assumption) (by kernel_rfl) fun s_ hs_ => ?_
  simp (maxSteps := 10000000) [SX.vc, SX.stop, SX.contS, SX.contB, SX.contW, SX.contR, SX.contD, SX.sxStep, SX.stepPure, SX.stepNew, SX.stepStore, SX.stepKeep, SX.guardIx, SX.evOp, SX.opd, SX.opds, SX.optOpd, SX.look, SX.putS, SX.gobs, SX.AllP, SX.leave, SX.lookC, SX.lookB, SX.lookT, SX.lookN, SX.findK, SX.evBuiltin, SX.ints, SX.foldI, SX.evBin, SX.evInt, SX.evStr, SX.evEq, SX.arith, SX.evLoad, SX.shapeUp, SX.evFieldAddr, SX.evField, SX.evIndexAddr, SX.evIndex, SX.evFill, SX.evBuild, SX.szs, SX.cellsV, SX.evNew, SX.evStore, SX.spliceL, SX.SV.cells, SX.evConv, SX.evSlice, SX.bnd, SX.evNil, SX.evUn, SX.evPick, SX.pickOpd, SX.popTo, SX.cnd, SX.env0, SX.TD.isAgg, SX.TD.isIface, SX.tails, SX.NotAgg, SX.evLookup, SX.evConvH, SX.evPtrEq, SX.isCells, SX.thaw, SX.frz, SX.fixB, SX.rootIx, SX.Froz, SX.frzStep, SX.fork, Go.Value.cells, Go.undef, cfg30]
  refine ⟨by (unfold SX.Ob; first | trivial | omega | ((try simp only [SX.inK]); (try simp [SX.den, SX.IsU8, SX.AllP, *]); (try omega))), ?_⟩
  intro a5 w5 hr5'' _
  have hr5' := h4.unbase hr5''
  have hO5 := hO4.keep hr5''.keeps (by simp [frameAt, mutB])
  have hb5 : Below w1.heap.size w1 w5 := Keeps.toBelow hr5'.keeps
  have z3 : w1.heap.size ≤ w3.heap.size := hb3.size
  have hde := delf_ok w1 w5 v4 t.L (fun x => !p x) (sA + 1) hO5 hn hb5 (fun x hx => by omega) hq
  rw [keep_not] at hde
  refine post_call 49 [.v v4, .fn (.func 50) [] [.ptr 1 (sA + 1) 0]] hr5' (wanted_none rfl) rfl (callable 49 Try.func49) hde ?_
  rintro e6 w6 ⟨v6, B, rfl, hO6, hB, hk6⟩
  refine ⟨_, rfl, ?_⟩
  have h6 := hr5'.retK hk6 (fun x hx => .inl (Nat.le_trans z3 (hB x hx).1)) 12 (.v v6) rfl [] trivial (by simp) rfl
  refine seg cfg30_ok mixed PanicFree.body 1000 [] [] h6.rebase (by first | trivial | exact HpRep.nil | assumption) (by kernel_rfl) fun s_ hs_ => ?_
  simp (maxSteps := 10000000) [SX.vc, SX.stop, SX.contS, SX.contB, SX.contW, SX.contR, SX.contD, SX.sxStep, SX.stepPure, SX.stepNew, SX.stepStore, SX.stepKeep, SX.guardIx, SX.evOp, SX.opd, SX.opds, SX.optOpd, SX.look, SX.putS, SX.gobs, SX.AllP, SX.leave, SX.lookC, SX.lookB, SX.lookT, SX.lookN, SX.findK, SX.evBuiltin, SX.ints, SX.foldI, SX.evBin, SX.evInt, SX.evStr, SX.evEq, SX.arith, SX.evLoad, SX.shapeUp, SX.evFieldAddr, SX.evField, SX.evIndexAddr, SX.evIndex, SX.evFill, SX.evBuild, SX.szs, SX.cellsV, SX.evNew, SX.evStore, SX.spliceL, SX.SV.cells, SX.evConv, SX.evSlice, SX.bnd, SX.evNil, SX.evUn, SX.evPick, SX.pickOpd, SX.popTo, SX.cnd, SX.env0, SX.TD.isAgg, SX.TD.isIface, SX.tails, SX.NotAgg, SX.evLookup, SX.evConvH, SX.evPtrEq, SX.isCells, SX.thaw, SX.frz, SX.fixB, SX.rootIx, SX.Froz, SX.frzStep, SX.fork, Go.Value.cells, Go.undef, cfg30]
  refine ⟨by (unfold SX.Ob; first | trivial | omega | ((try simp only [SX.inK]); (try simp [SX.den, SX.IsU8, SX.AllP, *]); (try omega))), ?_⟩
  intro a7 w7 hr7'' _
  have hr7 := h1.unbase (h6.unbase hr7'')
  exact post_retn (end1 hr7 rfl rfl ⟨v6, rfl, by rw [hS]; exact (hO6.mono (P' := fun x => w.heap.size ≤ x) fun x _ h => by omega).keep hr7''.keeps (by simp [frameAt, mutB]), hr7.keeps.toBelow⟩).1

set_option maxRecDepth 100000 in
set_option maxHeartbeats 8000000 in
/-- Tick's closures. -/
theorem tick1_ok (w : World) (x : Lse) (c : Nat) (n : Int) (hc : (SO.cells [.v (.int .i64 n)] 3).rep w c) : Calls Try.prog 36 (denL [.ag (lseC x), .ptr 0 c 0]).toArray w (Ret w (.v (.bool (decide (x.u ≤ n))))) := by
  refine enter (F := frame0 w) Try.func36 rfl [.ag (lseC x), .ptr 0 c 0] [(c, false, .cells [.v (.int .i64 n)] 3)] (by simp [Try.f36]) (HpAll.one hc) (keeps0 w) fun a hr => ?_
  refine seg cfg36_ok mixed PanicFree.body 1000 [] [] hr (by first | trivial | exact HpRep.nil | assumption) (by kernel_rfl) fun s_ hs_ => ?_
  simp (maxSteps := 10000000) [SX.vc, SX.stop, SX.contS, SX.contB, SX.contW, SX.contR, SX.contD, SX.sxStep, SX.stepPure, SX.stepNew, SX.stepStore, SX.stepKeep, SX.guardIx, SX.evOp, SX.opd, SX.opds, SX.optOpd, SX.look, SX.putS, SX.gobs, SX.AllP, SX.leave, SX.lookC, SX.lookB, SX.lookT, SX.lookN, SX.findK, SX.evBuiltin, SX.ints, SX.foldI, SX.evBin, SX.evInt, SX.evStr, SX.evEq, SX.arith, SX.evLoad, SX.shapeUp, SX.evFieldAddr, SX.evField, SX.evIndexAddr, SX.evIndex, SX.evFill, SX.evBuild, SX.szs, SX.cellsV, SX.evNew, SX.evStore, SX.spliceL, SX.SV.cells, SX.evConv, SX.evSlice, SX.bnd, SX.evNil, SX.evUn, SX.evPick, SX.pickOpd, SX.popTo, SX.cnd, SX.env0, SX.TD.isAgg, SX.TD.isIface, SX.tails, SX.NotAgg, SX.evLookup, SX.evConvH, SX.evPtrEq, SX.isCells, SX.thaw, SX.frz, SX.fixB, SX.rootIx, SX.Froz, SX.frzStep, SX.fork, Go.Value.cells, Go.undef, cfg36, Try.f36, lseC]
  refine ⟨by (unfold SX.Ob; first | trivial | omega | ((try simp only [SX.inK]); (try simp [SX.den, SX.IsU8, SX.AllP, *]); (try omega))), ?_⟩
  intro a1 w1 hr1 _
  exact post_retn (end1 hr1 rfl rfl ⟨rfl, hr1.keeps.toBelow⟩).1
set_option maxRecDepth 100000 in
set_option maxHeartbeats 8000000 in
theorem tick2_ok (w : World) (x : Lse) (c : Nat) (n : Int) (hc : (SO.cells [.v (.int .i64 n)] 3).rep w c) : Calls Try.prog 37 (denL [.ag (lseC x), .ptr 0 c 0]).toArray w (Ret w (.v (.bool (decide (n < x.u))))) := by
  refine enter (F := frame0 w) Try.func37 rfl [.ag (lseC x), .ptr 0 c 0] [(c, false, .cells [.v (.int .i64 n)] 3)] (by simp [Try.f37]) (HpAll.one hc) (keeps0 w) fun a hr => ?_
  refine seg cfg37_ok mixed PanicFree.body 1000 [] [] hr (by first | trivial | exact HpRep.nil | assumption) (by kernel_rfl) fun s_ hs_ => ?_
  simp (maxSteps := 10000000) [SX.vc, SX.stop, SX.contS, SX.contB, SX.contW, SX.contR, SX.contD, SX.sxStep, SX.stepPure, SX.stepNew, SX.stepStore, SX.stepKeep, SX.guardIx, SX.evOp, SX.opd, SX.opds, SX.optOpd, SX.look, SX.putS, SX.gobs, SX.AllP, SX.leave, SX.lookC, SX.lookB, SX.lookT, SX.lookN, SX.findK, SX.evBuiltin, SX.ints, SX.foldI, SX.evBin, SX.evInt, SX.evStr, SX.evEq, SX.arith, SX.evLoad, SX.shapeUp, SX.evFieldAddr, SX.evField, SX.evIndexAddr, SX.evIndex, SX.evFill, SX.evBuild, SX.szs, SX.cellsV, SX.evNew, SX.evStore, SX.spliceL, SX.SV.cells, SX.evConv, SX.evSlice, SX.bnd, SX.evNil, SX.evUn, SX.evPick, SX.pickOpd, SX.popTo, SX.cnd, SX.env0, SX.TD.isAgg, SX.TD.isIface, SX.tails, SX.NotAgg, SX.evLookup, SX.evConvH, SX.evPtrEq, SX.isCells, SX.thaw, SX.frz, SX.fixB, SX.rootIx, SX.Froz, SX.frzStep, SX.fork, Go.Value.cells, Go.undef, cfg37, Try.f37, lseC]
  refine ⟨by (unfold SX.Ob; first | trivial | omega | ((try simp only [SX.inK]); (try simp [SX.den, SX.IsU8, SX.AllP, *]); (try omega))), ?_⟩
  intro a1 w1 hr1 _
  exact post_retn (end1 hr1 rfl rfl ⟨rfl, hr1.keeps.toBelow⟩).1

/-- What Tick tells. -/
def TickOK (t : Tab) (n : Int) : Prop := ChkT t ∧ t.now ≤ n
instance (t : Tab) (n : Int) : Decidable (TickOK t n) := by unfold TickOK; infer_instance
def tickE (t : Tab) (n : Int) : Int := if TickOK t n then 0 else 1
def tab0 : Tab := ⟨0, 0, []⟩
def tickT (t : Tab) (n : Int) : Tab := if TickOK t n then ⟨t.last, n, t.L.filter fun x => decide (n < x.u)⟩ else tab0
def tickO (t : Tab) (n : Int) : List Lse := if TickOK t n then t.L.filter fun x => decide (x.u ≤ n) else []
theorem endCTT {P : Program} {fn : Func} {R : Ending → World → Prop} {F : Fr} {st : St} {a : Act} {w : World} (hr : RepX F st a w) {t ty v z : Nat} (hres : fn.results = #[.cell t ty, .tmp v, .tmp z]) {i b u : Nat} {m : Bool} {l : List SV} {ti : TI} (hl : lookD st.env t = some (.ptr i b 0)) (hi : st.hp[i]? = some (b, m, .cells l u)) (ht : ti.ok P ty)
    {x y y2 : SV} (hs : shapeUp ti.d.isAgg ti.sz l = some x) (hv : lookD st.env v = some y) (hv2 : lookD st.env z = some y2) (hR : R (.returned (.tuple #[den x, den y, den y2])) w) : bodyPost P fn R .ret a w ∧ bodyPost P fn R .normal a w := by
  have h1 := hr.cellResult hl hi ht hs
  have h2 := hr.slot hv
  have h3 := hr.slot hv2
  refine bodyPost_of hr.env.2.1 (v := .tuple #[den x, den y, den y2]) ?_ hR
  simp only [Array.getD_eq_getD_getElem?] at h2 h3
  simp [results, hres, h1.1, h1.2, h2, h3]

def TickR (w : World) (t : Tab) (n : Int) (e : Ending) (w' : World) : Prop :=
  ∃ v1 v2, e = .returned (den (.tu [.ag (tabC (tickT t n) v1), .v v2, .v (.int .i64 (tickE t n))])) ∧ RdL (fun x => w.heap.size ≤ x) w' v1 (tickT t n).L ∧ RdL (fun x => w.heap.size ≤ x) w' v2 (tickO t n) ∧ Below w.heap.size w w'

set_option maxRecDepth 100000 in
set_option maxHeartbeats 16000000 in
/-- Tick. -/
theorem Tick_ok {P : Nat → Prop} (w : World) (v : Value) (t : Tab) (n : Int) (hL : RdL P w v t.L) (hn : t.L.length ≤ 1000000) : Calls Try.prog 13 (denL [.ag (tabC t v), .v (.int .i64 n)]).toArray w (TickR w t n) := by
  refine enter (F := frame0 w) Try.func13 rfl [.ag (tabC t v), .v (.int .i64 n)] [] (by simp [Try.f13]) trivial (keeps0 w) fun a hr => ?_
  refine seg cfg13_ok mixed PanicFree.body 1000 [] [] hr (by first | trivial | exact HpRep.nil | assumption) (by kernel_rfl) fun sA hsA => ?_
  simp (maxSteps := 10000000) [SX.vc, SX.stop, SX.contS, SX.contB, SX.contW, SX.contR, SX.contD, SX.sxStep, SX.stepPure, SX.stepNew, SX.stepStore, SX.stepKeep, SX.guardIx, SX.evOp, SX.opd, SX.opds, SX.optOpd, SX.look, SX.putS, SX.gobs, SX.AllP, SX.leave, SX.lookC, SX.lookB, SX.lookT, SX.lookN, SX.findK, SX.evBuiltin, SX.ints, SX.foldI, SX.evBin, SX.evInt, SX.evStr, SX.evEq, SX.arith, SX.evLoad, SX.shapeUp, SX.evFieldAddr, SX.evField, SX.evIndexAddr, SX.evIndex, SX.evFill, SX.evBuild, SX.szs, SX.cellsV, SX.evNew, SX.evStore, SX.spliceL, SX.SV.cells, SX.evConv, SX.evSlice, SX.bnd, SX.evNil, SX.evUn, SX.evPick, SX.pickOpd, SX.popTo, SX.cnd, SX.env0, SX.TD.isAgg, SX.TD.isIface, SX.tails, SX.NotAgg, SX.evLookup, SX.evConvH, SX.evPtrEq, SX.isCells, SX.thaw, SX.frz, SX.fixB, SX.rootIx, SX.Froz, SX.frzStep, SX.fork, Go.Value.cells, Go.undef, cfg13, Try.f13, tabC]
  refine ⟨by (unfold SX.Ob; first | trivial | omega | ((try simp only [SX.inK]); (try simp [SX.den, SX.IsU8, SX.AllP, *]); (try omega))), ?_⟩
  intro a1 w1 hr1 _
  refine post_call 25 [.ag [.v (.int .i64 t.last), .v (.int .i64 t.now), .v v]] hr1 (by first | exact wanted_none rfl | exact wanted_zero (hr1.env.same rfl rfl rfl rfl) rfl (by simp) | exact wanted_zero (hr1.env.same rfl rfl rfl rfl) rfl (by simp [*])) rfl (callable 25 Try.func25) (check_ok w1 v t (hL.below hr1.keeps.toBelow) (by omega)) ?_
  rintro e2 w2 ⟨rfl, hb2⟩
  refine ⟨_, rfl, ?_⟩
  have h2 := hr1.ret hb2 10 (.v (.int .i64 (chkT t))) rfl _ (hr1.all.below hb2) (by simp) rfl
  have bad : ¬ TickOK t n → tickE t n = 1 ∧ tickT t n = tab0 ∧ tickO t n = [] := fun h => ⟨if_neg h, if_neg h, if_neg h⟩
  by_cases hC : ChkT t
  rotate_left
  · have hc : chkT t = 1 := if_neg hC
    obtain ⟨hE, hG, hX⟩ := bad fun h => hC h.1
    refine seg cfg13_ok mixed PanicFree.body 1000 [true] [(12, true)] h2 (by first | trivial | exact HpRep.nil | assumption) (by kernel_rfl) fun s_ hs_ => ?_
    simp (maxSteps := 10000000) [SX.vc, SX.stop, SX.contS, SX.contB, SX.contW, SX.contR, SX.contD, SX.sxStep, SX.stepPure, SX.stepNew, SX.stepStore, SX.stepKeep, SX.guardIx, SX.evOp, SX.opd, SX.opds, SX.optOpd, SX.look, SX.putS, SX.gobs, SX.AllP, SX.leave, SX.lookC, SX.lookB, SX.lookT, SX.lookN, SX.findK, SX.evBuiltin, SX.ints, SX.foldI, SX.evBin, SX.evInt, SX.evStr, SX.evEq, SX.arith, SX.evLoad, SX.shapeUp, SX.evFieldAddr, SX.evField, SX.evIndexAddr, SX.evIndex, SX.evFill, SX.evBuild, SX.szs, SX.cellsV, SX.evNew, SX.evStore, SX.spliceL, SX.SV.cells, SX.evConv, SX.evSlice, SX.bnd, SX.evNil, SX.evUn, SX.evPick, SX.pickOpd, SX.popTo, SX.cnd, SX.env0, SX.TD.isAgg, SX.TD.isIface, SX.tails, SX.NotAgg, SX.evLookup, SX.evConvH, SX.evPtrEq, SX.isCells, SX.thaw, SX.frz, SX.fixB, SX.rootIx, SX.Froz, SX.frzStep, SX.fork, Go.Value.cells, Go.undef, cfg13, hc]
    refine ⟨by (unfold SX.Ob; first | trivial | omega | ((try simp only [SX.inK]); (try simp [SX.den, SX.IsU8, SX.AllP, *]); (try omega))), ?_⟩
    intro a3 w3 hr3 _
    exact post_retn (endCTT hr3 rfl rfl rfl tok24 rfl rfl rfl ⟨.slice none 0 0, .slice none 0 0, by rw [hE, hG]; simp [den, denL, tabC, tab0], by rw [hG]; exact OwS.nil.rd, by rw [hX]; exact OwS.nil.rd, hr3.keeps.toBelow⟩).1
  have hc : chkT t = 0 := if_pos hC
  by_cases hnow : n < t.now
  · obtain ⟨hE, hG, hX⟩ := bad fun h => by have := h.2; omega
    refine seg cfg13_ok mixed PanicFree.body 1000 [true] [(12, false)] h2 (by first | trivial | exact HpRep.nil | assumption) (by kernel_rfl) fun s_ hs_ => ?_
    simp (maxSteps := 10000000) [SX.vc, SX.stop, SX.contS, SX.contB, SX.contW, SX.contR, SX.contD, SX.sxStep, SX.stepPure, SX.stepNew, SX.stepStore, SX.stepKeep, SX.guardIx, SX.evOp, SX.opd, SX.opds, SX.optOpd, SX.look, SX.putS, SX.gobs, SX.AllP, SX.leave, SX.lookC, SX.lookB, SX.lookT, SX.lookN, SX.findK, SX.evBuiltin, SX.ints, SX.foldI, SX.evBin, SX.evInt, SX.evStr, SX.evEq, SX.arith, SX.evLoad, SX.shapeUp, SX.evFieldAddr, SX.evField, SX.evIndexAddr, SX.evIndex, SX.evFill, SX.evBuild, SX.szs, SX.cellsV, SX.evNew, SX.evStore, SX.spliceL, SX.SV.cells, SX.evConv, SX.evSlice, SX.bnd, SX.evNil, SX.evUn, SX.evPick, SX.pickOpd, SX.popTo, SX.cnd, SX.env0, SX.TD.isAgg, SX.TD.isIface, SX.tails, SX.NotAgg, SX.evLookup, SX.evConvH, SX.evPtrEq, SX.isCells, SX.thaw, SX.frz, SX.fixB, SX.rootIx, SX.Froz, SX.frzStep, SX.fork, Go.Value.cells, Go.undef, cfg13, hc, hnow]
    refine ⟨by (unfold SX.Ob; first | trivial | omega | ((try simp only [SX.inK]); (try simp [SX.den, SX.IsU8, SX.AllP, *]); (try omega))), ?_⟩
    intro a3 w3 hr3 _
    exact post_retn (endCTT hr3 rfl rfl rfl tok24 rfl rfl rfl ⟨.slice none 0 0, .slice none 0 0, by rw [hE, hG]; simp [den, denL, tabC, tab0], by rw [hG]; exact OwS.nil.rd, by rw [hX]; exact OwS.nil.rd, hr3.keeps.toBelow⟩).1
  have hOK : TickOK t n := ⟨hC, by omega⟩
  have hE : tickE t n = 0 := if_pos hOK
  have hG : tickT t n = ⟨t.last, n, t.L.filter fun x => decide (n < x.u)⟩ := if_pos hOK
  have hX : tickO t n = t.L.filter fun x => decide (x.u ≤ n) := if_pos hOK
  have hS : ∀ p, someL t p = t.L.filter p := fun p => if_pos hC
  refine seg cfg13_ok mixed PanicFree.body 1000 [false] [(12, false)] h2 (by first | trivial | exact HpRep.nil | assumption) (by kernel_rfl) fun s_ hs_ => ?_
  simp (maxSteps := 10000000) [SX.vc, SX.stop, SX.contS, SX.contB, SX.contW, SX.contR, SX.contD, SX.sxStep, SX.stepPure, SX.stepNew, SX.stepStore, SX.stepKeep, SX.guardIx, SX.evOp, SX.opd, SX.opds, SX.optOpd, SX.look, SX.putS, SX.gobs, SX.AllP, SX.leave, SX.lookC, SX.lookB, SX.lookT, SX.lookN, SX.findK, SX.evBuiltin, SX.ints, SX.foldI, SX.evBin, SX.evInt, SX.evStr, SX.evEq, SX.arith, SX.evLoad, SX.shapeUp, SX.evFieldAddr, SX.evField, SX.evIndexAddr, SX.evIndex, SX.evFill, SX.evBuild, SX.szs, SX.cellsV, SX.evNew, SX.evStore, SX.spliceL, SX.SV.cells, SX.evConv, SX.evSlice, SX.bnd, SX.evNil, SX.evUn, SX.evPick, SX.pickOpd, SX.popTo, SX.cnd, SX.env0, SX.TD.isAgg, SX.TD.isIface, SX.tails, SX.NotAgg, SX.evLookup, SX.evConvH, SX.evPtrEq, SX.isCells, SX.thaw, SX.frz, SX.fixB, SX.rootIx, SX.Froz, SX.frzStep, SX.fork, Go.Value.cells, Go.undef, cfg13, hc, hnow, tabC]
  refine ⟨by (unfold SX.Ob; first | trivial | omega | ((try simp only [SX.inK]); (try simp [SX.den, SX.IsU8, SX.AllP, *]); (try omega))), ?_⟩
  intro a3 w3 hr3 _
  have hA3 := hr3.all
  have hs3 : sA + 1 < w3.heap.size := SO.rep_lt hA3.2.1.1
  have hs3' : sA + 2 < w3.heap.size := SO.rep_lt hA3.2.2.1.1
  have z3 : w.heap.size ≤ w3.heap.size := hr3.keeps.size
  refine post_call 30 [.ag [.v (.int .i64 t.last), .v (.int .i64 t.now), .v v], .fn (.func 36) [] [.ptr 1 (sA + 1) 0]] hr3 (by first | exact wanted_none rfl | exact wanted_zero (hr3.env.same rfl rfl rfl rfl) rfl (by simp) | exact wanted_zero (hr3.env.same rfl rfl rfl rfl) rfl (by simp [*])) rfl (callable 30 Try.func30) (some_ok 36 _ w3 v t (sA + 1) (hL.below hr3.keeps.toBelow) hn (callable 36 Try.func36) (fun w' x hb => tick1_ok w' x (sA + 1) n (SO.rep_same hA3.2.1.1 (hb.block _ hs3)))) ?_
  rintro e4 w4 ⟨v4, rfl, hO4, hb4⟩
  refine ⟨_, rfl, ?_⟩
  have h4 := hr3.ret hb4 21 (.v v4) rfl _ (hr3.all.below hb4) (by simp) rfl
  rw [hS] at hO4
  refine seg cfg13_ok mixed PanicFree.body 1000 [] [] h4.rebase (by first | trivial | exact HpRep.nil | assumption) (by kernel_rfl) fun s_ hs_ => ?_
  simp (maxSteps := 10000000) [SX.vc, SX.stop, SX.contS, SX.contB, SX.contW, SX.contR, SX.contD, SX.sxStep, SX.stepPure, SX.stepNew, SX.stepStore, SX.stepKeep, SX.guardIx, SX.evOp, SX.opd, SX.opds, SX.optOpd, SX.look, SX.putS, SX.gobs, SX.AllP, SX.leave, SX.lookC, SX.lookB, SX.lookT, SX.lookN, SX.findK, SX.evBuiltin, SX.ints, SX.foldI, SX.evBin, SX.evInt, SX.evStr, SX.evEq, SX.arith, SX.evLoad, SX.shapeUp, SX.evFieldAddr, SX.evField, SX.evIndexAddr, SX.evIndex, SX.evFill, SX.evBuild, SX.szs, SX.cellsV, SX.evNew, SX.evStore, SX.spliceL, SX.SV.cells, SX.evConv, SX.evSlice, SX.bnd, SX.evNil, SX.evUn, SX.evPick, SX.pickOpd, SX.popTo, SX.cnd, SX.env0, SX.TD.isAgg, SX.TD.isIface, SX.tails, SX.NotAgg, SX.evLookup, SX.evConvH, SX.evPtrEq, SX.isCells, SX.thaw, SX.frz, SX.fixB, SX.rootIx, SX.Froz, SX.frzStep, SX.fork, Go.Value.cells, Go.undef, cfg13, tabC]
  refine ⟨by (unfold SX.Ob; first | trivial | omega | ((try simp only [SX.inK]); (try simp [SX.den, SX.IsU8, SX.AllP, *]); (try omega))), ?_⟩
  intro a5 w5 hr5' _
  have hr5 := h4.unbase hr5'
  have hA5 := hr5.all
  have hs5 : sA + 1 < w5.heap.size := SO.rep_lt hA5.2.1.1
  have hO5 := hO4.keep hr5'.keeps (by simp [frameAt, mutB]; omega)
  refine post_call 30 [.ag [.v (.int .i64 t.last), .v (.int .i64 t.now), .v v], .fn (.func 37) [] [.ptr 1 (sA + 1) 0]] hr5 (by first | exact wanted_none rfl | exact wanted_zero (hr5.env.same rfl rfl rfl rfl) rfl (by simp) | exact wanted_zero (hr5.env.same rfl rfl rfl rfl) rfl (by simp [*])) rfl (callable 30 Try.func30) (some_ok 37 _ w5 v t (sA + 1) (hL.below hr5.keeps.toBelow) hn (callable 37 Try.func37) (fun w' x hb => tick2_ok w' x (sA + 1) n (SO.rep_same hA5.2.1.1 (hb.block _ hs5)))) ?_
  rintro e6 w6 ⟨v6, rfl, hO6, hb6⟩
  refine ⟨_, rfl, ?_⟩
  have h6 := hr5.ret hb6 24 (.v v6) rfl _ (hr5.all.below hb6) (by simp) rfl
  rw [hS] at hO6
  have hO6' := hO5.below hb6
  obtain ⟨ad6, cp6, rfl⟩ := hO6.slice
  have z5 : w3.heap.size ≤ w5.heap.size := Nat.le_trans hb4.size hr5'.keeps.size
  refine seg cfg13_ok mixed PanicFree.body 1000 [] [] h6.rebase (by first | trivial | exact HpRep.nil | assumption) (by kernel_rfl) fun s_ hs_ => ?_
  simp (maxSteps := 10000000) [SX.vc, SX.stop, SX.contS, SX.contB, SX.contW, SX.contR, SX.contD, SX.sxStep, SX.stepPure, SX.stepNew, SX.stepStore, SX.stepKeep, SX.guardIx, SX.evOp, SX.opd, SX.opds, SX.optOpd, SX.look, SX.putS, SX.gobs, SX.AllP, SX.leave, SX.lookC, SX.lookB, SX.lookT, SX.lookN, SX.findK, SX.evBuiltin, SX.ints, SX.foldI, SX.evBin, SX.evInt, SX.evStr, SX.evEq, SX.arith, SX.evLoad, SX.shapeUp, SX.evFieldAddr, SX.evField, SX.evIndexAddr, SX.evIndex, SX.evFill, SX.evBuild, SX.szs, SX.cellsV, SX.evNew, SX.evStore, SX.spliceL, SX.SV.cells, SX.evConv, SX.evSlice, SX.bnd, SX.evNil, SX.evUn, SX.evPick, SX.pickOpd, SX.popTo, SX.cnd, SX.env0, SX.TD.isAgg, SX.TD.isIface, SX.tails, SX.NotAgg, SX.evLookup, SX.evConvH, SX.evPtrEq, SX.isCells, SX.thaw, SX.frz, SX.fixB, SX.rootIx, SX.Froz, SX.frzStep, SX.fork, Go.Value.cells, Go.undef, cfg13, tabC]
  refine ⟨by (unfold SX.Ob; first | trivial | omega | ((try simp only [SX.inK]); (try simp [SX.den, SX.IsU8, SX.AllP, *]); (try omega))), ?_⟩
  intro a7 w7 hr7' _
  have hr7 := h6.unbase hr7'
  have hO7 := (hO6.rd.keep hr7'.keeps (by simp [frameAt, mutB]; omega)).mono (P' := fun x => w.heap.size ≤ x) fun x _ h => by omega
  have hO7' := (hO6'.rd.keep hr7'.keeps (by simp [frameAt, mutB]; omega)).mono (P' := fun x => w.heap.size ≤ x) fun x _ h => by omega
  exact post_retn (endCTT hr7 rfl rfl rfl tok24 rfl rfl rfl ⟨.slice ad6 (List.filter (fun x => decide (n < x.u)) t.L).length cp6, v4, by rw [hE, hG]; simp [den, denL, tabC], by rw [hG]; exact hO7, by rw [hX]; exact hO7', hr7.keeps.toBelow⟩).1
end Go.Proofs
