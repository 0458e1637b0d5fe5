/- Histories: Clone, Same, Order. -/
import Derived.Test.YtajppkjbmiemhaaOQ
import Derived.Test.YtajppkjbmiemhaaOR
namespace Go.Proofs
set_option linter.unusedVariables false
set_option linter.unusedSimpArgs false
set_option linter.unusedSectionVars false
open Go Go.SX Go.RowKit Go.Hist

abbrev RdH := RdS evRow 5 zeroEv
abbrev OwH := OwS evRow 5 zeroEv
theorem OwS.nil {α : Type} {enc : α → List SV} {sz : Nat} {d : α} {P : Nat → Prop} {w : World} : OwS enc sz d P w (.slice none 0 0) [] := .inl ⟨rfl, none, rfl⟩
theorem flatH (L : List HEv) : ∀ x ∈ L, ∀ c ∈ evRow x, NotAgg (den c) := by
  intro x _ c hc
  simp only [evRow, List.mem_cons, List.not_mem_nil, or_false] at hc
  rcases hc with rfl | rfl | rfl | rfl | rfl <;> trivial
theorem side28 : eqSide Try.prog 28 = true := by kernel_rfl
theorem ok28 : ∀ t, (t == 28) = true → eqSide Try.prog t = true := by
  intro t h
  have e : t = 28 := by simpa using h
  rw [e]
  exact side28
theorem ev_beq (x y : HEv) : (x.at_ == y.at_ && (x.lba == y.lba && (x.rd == y.rd && (x.ver == y.ver && x.by_ == y.by_)))) = decide (x = y) := by
  rw [Bool.eq_iff_iff]
  simp only [Bool.and_eq_true, beq_iff_eq, decide_eq_true_eq]
  cases x; cases y
  simp
theorem eqEv {tt : List (Nat × TI)} {ok : Nat → Bool} (x y : HEv) (h1 : lookT tt 28 = some ⟨.struct [(0, 3), (1, 3), (2, 4), (3, 3), (4, 5)], 5, 40, .agg #[.int .i64 0, .int .i64 0, .bool false, .int .i64 0, .int .u8 0]⟩ := by rfl) (h3 : lookT tt 3 = some ⟨.int .i64, 1, 8, .int .i64 0⟩ := by rfl) (h4 : lookT tt 4 = some ⟨.bool, 1, 1, .bool false⟩ := by rfl) (h5 : lookT tt 5 = some ⟨.int .u8, 1, 1, .int .u8 0⟩ := by rfl) (hok : ok 28 = true := by rfl) :
    evEqA tt ok 40 28 (.ag (evRow x)) (.ag (evRow y)) = some (decide (x = y)) := by
  rw [← ev_beq]
  simp [evEqA, evEqF, eqPlain, h1, h3, h4, h5, hok, shapeUp, TD.isAgg, evRow]

def OwR (w : World) (L : List HEv) (e : Ending) (w' : World) : Prop := ∃ v', e = .returned v' ∧ OwH (fun x => w.heap.size ≤ x) w' v' L ∧ Below w.heap.size w w'

set_option maxRecDepth 100000 in
set_option maxHeartbeats 8000000 in
/-- Clone. -/
theorem clone_ok {P : Nat → Prop} (w : World) (v : Value) (L : List HEv) (hL : RdH P w v L) (h0 : 0 < L.length) (hn : L.length ≤ 1000000) : Calls Try.prog 15 (denL [.v v]).toArray w (OwR w L) := by
  obtain ⟨b, o0, cap, u, fz, hP, rfl, hrep⟩ := hL.opn h0
  refine enter (F := frame0 w) Try.func15 rfl [.sl 0 b o0 0 L.length cap 5] [(b, false, .arr o0 L.length (fun j => evRow (nth zeroEv L j)) 5 u fz)] (by simp [Try.f15]) (HpAll.one hrep) (keeps0 w) fun a hr => ?_
  refine seg cfg15_ok mixed PanicFree.body 1000 [false] [] hr (by first | trivial | exact HpRep.nil | assumption) (by kernel_rfl) fun s_ hs_ => ?_
  simp (maxSteps := 10000000) [SX.vc, SX.stop, SX.contS, SX.contB, SX.contW, SX.contR, SX.contD, SX.sxStep, SX.stepPure, SX.stepNew, SX.stepStore, SX.stepKeep, SX.guardIx, SX.evOp, SX.opd, SX.opds, SX.optOpd, SX.look, SX.putS, SX.gobs, SX.AllP, SX.leave, SX.lookC, SX.lookB, SX.lookT, SX.lookN, SX.findK, SX.evBuiltin, SX.ints, SX.foldI, SX.evBin, SX.evInt, SX.evStr, SX.evEq, SX.arith, SX.evLoad, SX.shapeUp, SX.evFieldAddr, SX.evField, SX.evIndexAddr, SX.evIndex, SX.evFill, SX.evBuild, SX.szs, SX.cellsV, SX.evNew, SX.evStore, SX.spliceL, SX.SV.cells, SX.evConv, SX.evSlice, SX.bnd, SX.evNil, SX.evUn, SX.evPick, SX.pickOpd, SX.popTo, SX.cnd, SX.env0, SX.TD.isAgg, SX.TD.isIface, SX.tails, SX.NotAgg, SX.evLookup, SX.evConvH, SX.evPtrEq, SX.isCells, SX.thaw, SX.frz, SX.fixB, SX.rootIx, SX.Froz, SX.frzStep, SX.fork, Go.Value.cells, Go.undef, cfg15, Try.f15]
  refine ⟨by (unfold SX.Ob; first | trivial | omega | ((try simp only [SX.inK]); (try simp [SX.den, SX.IsU8, SX.AllP, *]); (try omega))), ?_⟩
  intro a1 w1 hr1 _
  obtain ⟨s_0, hs00⟩ : ∃ x, x = s_ := ⟨_, rfl⟩
  subst hs00
  refine post_append cfg15_ok hr1 rfl (d := 7) rfl (by simp) rfl rfl (t := 22) (t' := 22) rfl rfl rfl rfl rfl rfl (by decide) (j := 0) rfl rfl (base2 := 0) (by omega) (.inr ⟨rfl, rfl, Nat.le_refl _, Nat.le_refl _⟩) h0 (by show (2 * (0 + L.length) + 192) * 40 ≤ 281474976710656; omega) (fun j hj z hz => ?_) ?_
  · simp only [evRow, Nat.zero_add, List.mem_cons, List.not_mem_nil, or_false] at hz
    rcases hz with rfl | rfl | rfl | rfl | rfl <;> trivial
  intro a3 w3 b' cap' N' row' u' hc1' hc2' hrow0 hrow1 hb' hr3
  refine seg cfg15_ok mixed PanicFree.body 1000 [] [] hr3 (by first | trivial | exact HpRep.nil | assumption) (by kernel_rfl) fun s_ hs_ => ?_
  simp (maxSteps := 10000000) [SX.vc, SX.stop, SX.contS, SX.contB, SX.contW, SX.contR, SX.contD, SX.sxStep, SX.stepPure, SX.stepNew, SX.stepStore, SX.stepKeep, SX.guardIx, SX.evOp, SX.opd, SX.opds, SX.optOpd, SX.look, SX.putS, SX.gobs, SX.AllP, SX.leave, SX.lookC, SX.lookB, SX.lookT, SX.lookN, SX.findK, SX.evBuiltin, SX.ints, SX.foldI, SX.evBin, SX.evInt, SX.evStr, SX.evEq, SX.arith, SX.evLoad, SX.shapeUp, SX.evFieldAddr, SX.evField, SX.evIndexAddr, SX.evIndex, SX.evFill, SX.evBuild, SX.szs, SX.cellsV, SX.evNew, SX.evStore, SX.spliceL, SX.SV.cells, SX.evConv, SX.evSlice, SX.bnd, SX.evNil, SX.evUn, SX.evPick, SX.pickOpd, SX.popTo, SX.cnd, SX.env0, SX.TD.isAgg, SX.TD.isIface, SX.tails, SX.NotAgg, SX.evLookup, SX.evConvH, SX.evPtrEq, SX.isCells, SX.thaw, SX.frz, SX.fixB, SX.rootIx, SX.Froz, SX.frzStep, SX.fork, Go.Value.cells, Go.undef, cfg15]
  refine ⟨by (unfold SX.Ob; first | trivial | omega | ((try simp only [SX.inK]); (try simp [SX.den, SX.IsU8, SX.AllP, *]); (try omega))), ?_⟩
  intro a4 w4 hr4 _
  have hA := hr4.all
  have hbb : w.heap.size ≤ b' := by
    have h10 : w.heap.size ≤ w1.heap.size := hr1.keeps.size
    have h11 := hr1.all.2.1.2.1
    rcases hb' with ⟨h, rfl⟩ | rfl
    · cases h
      rcases h11 rfl with h | h
      · exact h
      · cases h
    · exact h10
  exact post_retn (end1 hr4 rfl rfl ⟨_, rfl, .inr ⟨b', N', cap', u', row', hbb, by simp [den], by omega, by omega, hc2', hA.2.1.1, fun j hj => by have := hrow1 j hj; simpa using this⟩, hr4.keeps.toBelow⟩).1
set_option maxRecDepth 100000 in
set_option maxHeartbeats 8000000 in
theorem clone_all {P : Nat → Prop} (w : World) (v : Value) (L : List HEv) (hL : RdH P w v L) (hn : L.length ≤ 1000000) : Calls Try.prog 15 (denL [.v v]).toArray w (OwR w L) := by
  rcases Nat.eq_zero_or_pos L.length with h0 | h0
  rotate_left
  · exact clone_ok w v L hL h0 hn
  obtain rfl : L = [] := List.length_eq_zero_iff.1 h0
  obtain ⟨ad, cp, rfl⟩ := hL.slice
  rcases ad with _ | ad
  · refine enter (F := frame0 w) Try.func15 rfl [.v (.slice none 0 cp)] [] (by simp [Try.f15]) trivial (keeps0 w) fun a hr => ?_
    refine seg cfg15_ok mixed PanicFree.body 1000 [true] [] hr (by first | trivial | exact HpRep.nil | assumption) (by kernel_rfl) fun s_ hs_ => ?_
    simp (maxSteps := 10000000) [SX.vc, SX.stop, SX.contS, SX.contB, SX.contW, SX.contR, SX.contD, SX.sxStep, SX.stepPure, SX.stepNew, SX.stepStore, SX.stepKeep, SX.guardIx, SX.evOp, SX.opd, SX.opds, SX.optOpd, SX.look, SX.putS, SX.gobs, SX.AllP, SX.leave, SX.lookC, SX.lookB, SX.lookT, SX.lookN, SX.findK, SX.evBuiltin, SX.ints, SX.foldI, SX.evBin, SX.evInt, SX.evStr, SX.evEq, SX.arith, SX.evLoad, SX.shapeUp, SX.evFieldAddr, SX.evField, SX.evIndexAddr, SX.evIndex, SX.evFill, SX.evBuild, SX.szs, SX.cellsV, SX.evNew, SX.evStore, SX.spliceL, SX.SV.cells, SX.evConv, SX.evSlice, SX.bnd, SX.evNil, SX.evUn, SX.evPick, SX.pickOpd, SX.popTo, SX.cnd, SX.env0, SX.TD.isAgg, SX.TD.isIface, SX.tails, SX.NotAgg, SX.evLookup, SX.evConvH, SX.evPtrEq, SX.isCells, SX.thaw, SX.frz, SX.fixB, SX.rootIx, SX.Froz, SX.frzStep, SX.fork, Go.Value.cells, Go.undef, cfg15, Try.f15]
    refine ⟨by (unfold SX.Ob; first | trivial | omega | ((try simp only [SX.inK]); (try simp [SX.den, SX.IsU8, SX.AllP, *]); (try omega))), ?_⟩
    intro a1 w1 hr1 _
    exact post_retn (end1 hr1 rfl rfl ⟨_, rfl, OwS.nil, hr1.keeps.toBelow⟩).1
  · refine enter (F := frame0 w) Try.func15 rfl [.v (.slice (some ad) 0 cp)] [] (by simp [Try.f15]) trivial (keeps0 w) fun a hr => ?_
    refine seg cfg15_ok mixed PanicFree.body 1000 [false] [] hr (by first | trivial | exact HpRep.nil | assumption) (by kernel_rfl) fun sN hsN => ?_
    simp (maxSteps := 10000000) [SX.vc, SX.stop, SX.contS, SX.contB, SX.contW, SX.contR, SX.contD, SX.sxStep, SX.stepPure, SX.stepNew, SX.stepStore, SX.stepKeep, SX.guardIx, SX.evOp, SX.opd, SX.opds, SX.optOpd, SX.look, SX.putS, SX.gobs, SX.AllP, SX.leave, SX.lookC, SX.lookB, SX.lookT, SX.lookN, SX.findK, SX.evBuiltin, SX.ints, SX.foldI, SX.evBin, SX.evInt, SX.evStr, SX.evEq, SX.arith, SX.evLoad, SX.shapeUp, SX.evFieldAddr, SX.evField, SX.evIndexAddr, SX.evIndex, SX.evFill, SX.evBuild, SX.szs, SX.cellsV, SX.evNew, SX.evStore, SX.spliceL, SX.SV.cells, SX.evConv, SX.evSlice, SX.bnd, SX.evNil, SX.evUn, SX.evPick, SX.pickOpd, SX.popTo, SX.cnd, SX.env0, SX.TD.isAgg, SX.TD.isIface, SX.tails, SX.NotAgg, SX.evLookup, SX.evConvH, SX.evPtrEq, SX.isCells, SX.thaw, SX.frz, SX.fixB, SX.rootIx, SX.Froz, SX.frzStep, SX.fork, Go.Value.cells, Go.undef, cfg15, Try.f15]
    refine ⟨by (unfold SX.Ob; first | trivial | omega | ((try simp only [SX.inK]); (try simp [SX.den, SX.IsU8, SX.AllP, *]); (try omega))), ?_⟩
    intro a1 w1 hr1 _
    refine post_append0 cfg15_ok hr1 (wanted_none rfl) rfl (by simp) rfl rfl rfl rfl rfl rfl rfl rfl rfl (Nat.le_refl _) fun a2 hr2 => ?_
    refine seg cfg15_ok mixed PanicFree.body 1000 [] [] hr2 (by first | trivial | exact HpRep.nil | assumption) (by kernel_rfl) fun s_ hs_ => ?_
    simp (maxSteps := 10000000) [SX.vc, SX.stop, SX.contS, SX.contB, SX.contW, SX.contR, SX.contD, SX.sxStep, SX.stepPure, SX.stepNew, SX.stepStore, SX.stepKeep, SX.guardIx, SX.evOp, SX.opd, SX.opds, SX.optOpd, SX.look, SX.putS, SX.gobs, SX.AllP, SX.leave, SX.lookC, SX.lookB, SX.lookT, SX.lookN, SX.findK, SX.evBuiltin, SX.ints, SX.foldI, SX.evBin, SX.evInt, SX.evStr, SX.evEq, SX.arith, SX.evLoad, SX.shapeUp, SX.evFieldAddr, SX.evField, SX.evIndexAddr, SX.evIndex, SX.evFill, SX.evBuild, SX.szs, SX.cellsV, SX.evNew, SX.evStore, SX.spliceL, SX.SV.cells, SX.evConv, SX.evSlice, SX.bnd, SX.evNil, SX.evUn, SX.evPick, SX.pickOpd, SX.popTo, SX.cnd, SX.env0, SX.TD.isAgg, SX.TD.isIface, SX.tails, SX.NotAgg, SX.evLookup, SX.evConvH, SX.evPtrEq, SX.isCells, SX.thaw, SX.frz, SX.fixB, SX.rootIx, SX.Froz, SX.frzStep, SX.fork, Go.Value.cells, Go.undef, cfg15]
    refine ⟨by (unfold SX.Ob; first | trivial | omega | ((try simp only [SX.inK]); (try simp [SX.den, SX.IsU8, SX.AllP, *]); (try omega))), ?_⟩
    intro a3 w3 hr3 _
    exact post_retn (end1 hr3 rfl rfl ⟨_, rfl, .inl ⟨rfl, _, rfl⟩, hr3.keeps.toBelow⟩).1
theorem nth_spn {L M : List HEv} (hl : L.length = M.length) (h : ∀ j, j < L.length → nth zeroEv L j = nth zeroEv M j) : L = M := by
  apply List.ext_getElem hl
  intro j h1 h2
  have := h j h1
  rwa [nth_lt h1, nth_lt h2] at this

def cfg11n : Cfg := { cfg11 with dt := [] }
theorem cfg11n_ok : TTok Try.prog cfg11n.tt := cfg11_ok
def EqLoop11 (w : World) (v v' : Value) (L M : List HEv) (m : Nat) (a : Act) (w' : World) : Prop :=
  ∃ k : Nat, m = L.length - k ∧ k ≤ L.length ∧ (∀ j, j < k → nth zeroEv L j = nth zeroEv M j) ∧ RepX (frame0 w) ⟨[(13, 0, .v (.int .i64 k)), (12, 0, .v (.int .i64 L.length)), (0, 0, .v v), (1, 0, .v v')], [], 0, 0, 26, [], [], []⟩ a w'

set_option maxRecDepth 100000 in
set_option maxHeartbeats 8000000 in
theorem same_ok {P P' : Nat → Prop} (w : World) (v v' : Value) (L M : List HEv) (hL : RdH P w v L) (hM : RdH P' w v' M) (hn : L.length ≤ 1000000) : Calls Try.prog 11 (denL [.v v, .v v']).toArray w (Ret w (.v (.bool (decide (L = M))))) := by
  obtain ⟨ad, cp, rfl⟩ := hL.slice
  obtain ⟨ad', cp', rfl⟩ := hM.slice
  refine enter (F := frame0 w) Try.func11 rfl [.v (.slice ad L.length cp), .v (.slice ad' M.length cp')] [] (by simp [Try.f11]) trivial (keeps0 w) fun a hr => ?_
  by_cases hl : L.length = M.length
  rotate_left
  · refine seg cfg11_ok mixed PanicFree.body 1000 [true] [] hr (by first | trivial | exact HpRep.nil | assumption) (by kernel_rfl) fun s_ hs_ => ?_
    simp (maxSteps := 10000000) [SX.vc, SX.stop, SX.contS, SX.contB, SX.contW, SX.contR, SX.contD, SX.sxStep, SX.stepPure, SX.stepNew, SX.stepStore, SX.stepKeep, SX.guardIx, SX.evOp, SX.opd, SX.opds, SX.optOpd, SX.look, SX.putS, SX.gobs, SX.AllP, SX.leave, SX.lookC, SX.lookB, SX.lookT, SX.lookN, SX.findK, SX.evBuiltin, SX.ints, SX.foldI, SX.evBin, SX.evInt, SX.evStr, SX.evEq, SX.arith, SX.evLoad, SX.shapeUp, SX.evFieldAddr, SX.evField, SX.evIndexAddr, SX.evIndex, SX.evFill, SX.evBuild, SX.szs, SX.cellsV, SX.evNew, SX.evStore, SX.spliceL, SX.SV.cells, SX.evConv, SX.evSlice, SX.bnd, SX.evNil, SX.evUn, SX.evPick, SX.pickOpd, SX.popTo, SX.cnd, SX.env0, SX.TD.isAgg, SX.TD.isIface, SX.tails, SX.NotAgg, SX.evLookup, SX.evConvH, SX.evPtrEq, SX.isCells, SX.thaw, SX.frz, SX.fixB, SX.rootIx, SX.Froz, SX.frzStep, SX.fork, Go.Value.cells, Go.undef, cfg11, Try.f11, hl]
    refine ⟨by (unfold SX.Ob; first | trivial | omega | ((try simp only [SX.inK]); (try simp [SX.den, SX.IsU8, SX.AllP, *]); (try omega))), ?_⟩
    intro a1 w1 hr1 _
    refine post_retn (end1 hr1 rfl rfl ⟨ret_dec ?_, hr1.keeps.toBelow⟩).1
    simp only [Bool.false_eq_true, false_iff]
    rintro rfl
    exact hl rfl
  have hl' : ¬ ((L.length : Int) ≠ (M.length : Int)) := by omega
  have hl2 : ((L.length : Int) != (M.length : Int)) = false := by simp [hl]
  refine seg cfg11_ok mixed PanicFree.body 1000 [false] [] hr (by first | trivial | exact HpRep.nil | assumption) (by kernel_rfl) fun s_ hs_ => ?_
  simp (maxSteps := 10000000) [SX.vc, SX.stop, SX.contS, SX.contB, SX.contW, SX.contR, SX.contD, SX.sxStep, SX.stepPure, SX.stepNew, SX.stepStore, SX.stepKeep, SX.guardIx, SX.evOp, SX.opd, SX.opds, SX.optOpd, SX.look, SX.putS, SX.gobs, SX.AllP, SX.leave, SX.lookC, SX.lookB, SX.lookT, SX.lookN, SX.findK, SX.evBuiltin, SX.ints, SX.foldI, SX.evBin, SX.evInt, SX.evStr, SX.evEq, SX.arith, SX.evLoad, SX.shapeUp, SX.evFieldAddr, SX.evField, SX.evIndexAddr, SX.evIndex, SX.evFill, SX.evBuild, SX.szs, SX.cellsV, SX.evNew, SX.evStore, SX.spliceL, SX.SV.cells, SX.evConv, SX.evSlice, SX.bnd, SX.evNil, SX.evUn, SX.evPick, SX.pickOpd, SX.popTo, SX.cnd, SX.env0, SX.TD.isAgg, SX.TD.isIface, SX.tails, SX.NotAgg, SX.evLookup, SX.evConvH, SX.evPtrEq, SX.isCells, SX.thaw, SX.frz, SX.fixB, SX.rootIx, SX.Froz, SX.frzStep, SX.fork, Go.Value.cells, Go.undef, cfg11, Try.f11, hl2]
  refine ⟨by (unfold SX.Ob; first | trivial | omega | ((try simp only [SX.inK]); (try simp [SX.den, SX.IsU8, SX.AllP, *]); (try omega))), ?_⟩
  intro a1 w1 hr1 _
  refine post_loop (EqLoop11 w (.slice ad L.length cp) (.slice ad' M.length cp') L M) L.length ⟨0, rfl, by omega, by omega, hr1.re (by simp [envTo, SX.look]) trivial rfl rfl⟩ ?_
  rintro m a2 w2 ⟨k, rfl, hk, hs, hr2⟩
  by_cases hlt : k < L.length
  · obtain ⟨b, o0, cap, u, fz, hP, hv, hrep⟩ := hL.opn hlt
    obtain ⟨b', o0', cap', u', fz', hP', hv', hrep'⟩ := hM.opn (show k < M.length by omega)
    cases hv
    cases hv'
    have h3 := (hr2.top 0 (.sl 0 b o0 0 L.length cp 5) rfl (by simp [den])).top 1 (.sl 1 b' o0' 0 M.length cp' 5) rfl (by simp [den])
    refine seg cfg11n_ok mixed PanicFree.body 1000 [true] [] h3 (by first | trivial | exact HpRep.nil | assumption) (by kernel_rfl) fun s_ hs_ => ?_
    simp (maxSteps := 10000000) [SX.vc, SX.stop, SX.contS, SX.contB, SX.contW, SX.contR, SX.contD, SX.sxStep, SX.stepPure, SX.stepNew, SX.stepStore, SX.stepKeep, SX.guardIx, SX.evOp, SX.opd, SX.opds, SX.optOpd, SX.look, SX.putS, SX.gobs, SX.AllP, SX.leave, SX.lookC, SX.lookB, SX.lookT, SX.lookN, SX.findK, SX.evBuiltin, SX.ints, SX.foldI, SX.evBin, SX.evInt, SX.evStr, SX.evEq, SX.arith, SX.evLoad, SX.shapeUp, SX.evFieldAddr, SX.evField, SX.evIndexAddr, SX.evIndex, SX.evFill, SX.evBuild, SX.szs, SX.cellsV, SX.evNew, SX.evStore, SX.spliceL, SX.SV.cells, SX.evConv, SX.evSlice, SX.bnd, SX.evNil, SX.evUn, SX.evPick, SX.pickOpd, SX.popTo, SX.cnd, SX.env0, SX.TD.isAgg, SX.TD.isIface, SX.tails, SX.NotAgg, SX.evLookup, SX.evConvH, SX.evPtrEq, SX.isCells, SX.thaw, SX.frz, SX.fixB, SX.rootIx, SX.Froz, SX.frzStep, SX.fork, Go.Value.cells, Go.undef, cfg11n, cfg11]
    refine ⟨by (unfold SX.Ob; first | trivial | omega | ((try simp only [SX.inK]); (try simp [SX.den, SX.IsU8, SX.AllP, *]); (try omega))), ?_⟩
    intro a4 w4 hr4 _
    have hb4 := hr4.keeps.toBelow
    have r1 := SO.rep_same hrep (hb4.block _ (SO.rep_lt hrep))
    have r2 := SO.rep_same hrep' (hb4.block _ (SO.rep_lt hrep'))
    obtain ⟨x, hx⟩ : ∃ x, nth zeroEv L k = x := ⟨_, rfl⟩
    obtain ⟨y, hy⟩ : ∃ y, nth zeroEv M k = y := ⟨_, rfl⟩
    refine post_enterD mixed PanicFree.body (ord := [(0, 0), (1, 0), (2, 0), (3, 0), (4, 0), (5, 0), (6, 0), (7, 0), (8, 0)]) (by kernel_rfl) hr4 [(b, false, .arr o0 L.length (fun j => evRow (nth zeroEv L j)) 5 u fz), (b', false, .arr o0' M.length (fun j => evRow (nth zeroEv M j)) 5 u' fz')] (by
      intro i c m o hi
      rcases i with _ | _ | i
      · cases hi; exact r1
      · cases hi; exact r2
      · simp at hi) fun h5 ht5 => ?_
    have hkM : k < M.length := by omega
    refine seg cfg11_ok mixed PanicFree.body 1000 [] [] h5 (by first | trivial | exact HpRep.nil | assumption) (by kernel_rfl) fun s_ hs_ => ?_
    simp (maxSteps := 10000000) [SX.vc, SX.stop, SX.contS, SX.contB, SX.contW, SX.contR, SX.contD, SX.sxStep, SX.stepPure, SX.stepNew, SX.stepStore, SX.stepKeep, SX.guardIx, SX.evOp, SX.opd, SX.opds, SX.optOpd, SX.look, SX.putS, SX.gobs, SX.AllP, SX.leave, SX.lookC, SX.lookB, SX.lookT, SX.lookN, SX.findK, SX.evBuiltin, SX.ints, SX.foldI, SX.evBin, SX.evInt, SX.evStr, SX.evEq, SX.arith, SX.evLoad, SX.shapeUp, SX.evFieldAddr, SX.evField, SX.evIndexAddr, SX.evIndex, SX.evFill, SX.evBuild, SX.szs, SX.cellsV, SX.evNew, SX.evStore, SX.spliceL, SX.SV.cells, SX.evConv, SX.evSlice, SX.bnd, SX.evNil, SX.evUn, SX.evPick, SX.pickOpd, SX.popTo, SX.cnd, SX.env0, SX.TD.isAgg, SX.TD.isIface, SX.tails, SX.NotAgg, SX.evLookup, SX.evConvH, SX.evPtrEq, SX.isCells, SX.thaw, SX.frz, SX.fixB, SX.rootIx, SX.Froz, SX.frzStep, SX.fork, Go.Value.cells, Go.undef, cfg11, evRow, hx, hy]
    refine ⟨by (unfold SX.Ob; first | trivial | omega | ((try simp only [SX.inK]); (try simp [SX.den, SX.IsU8, SX.AllP, *]); (try omega))), ?_⟩
    intro a6 w6 hr6 ht6
    refine post_eqQ (C := cfg11) cfg11_ok (ok := fun t => t == 28) ok28 hr6 ht6 rfl rfl rfl rfl rfl (by kernel_rfl) (b := decide (x = y)) (eqEv x y) (by first | exact wanted_none rfl | exact wanted_zero (hr6.env.same rfl rfl rfl rfl) rfl (by simp)) rfl (by simp) rfl fun a_ hr7 => ?_
    simp only [SX.eqR] at hr7
    have ht7 := ht6
    by_cases hxy : x = y
    · refine seg cfg11_ok mixed PanicFree.body 1000 [false] [] hr7 (by first | trivial | exact HpRep.nil | assumption) (by kernel_rfl) fun s_ hs_ => ?_
      simp (maxSteps := 10000000) [SX.vc, SX.stop, SX.contS, SX.contB, SX.contW, SX.contR, SX.contD, SX.sxStep, SX.stepPure, SX.stepNew, SX.stepStore, SX.stepKeep, SX.guardIx, SX.evOp, SX.opd, SX.opds, SX.optOpd, SX.look, SX.putS, SX.gobs, SX.AllP, SX.leave, SX.lookC, SX.lookB, SX.lookT, SX.lookN, SX.findK, SX.evBuiltin, SX.ints, SX.foldI, SX.evBin, SX.evInt, SX.evStr, SX.evEq, SX.arith, SX.evLoad, SX.shapeUp, SX.evFieldAddr, SX.evField, SX.evIndexAddr, SX.evIndex, SX.evFill, SX.evBuild, SX.szs, SX.cellsV, SX.evNew, SX.evStore, SX.spliceL, SX.SV.cells, SX.evConv, SX.evSlice, SX.bnd, SX.evNil, SX.evUn, SX.evPick, SX.pickOpd, SX.popTo, SX.cnd, SX.env0, SX.TD.isAgg, SX.TD.isIface, SX.tails, SX.NotAgg, SX.evLookup, SX.evConvH, SX.evPtrEq, SX.isCells, SX.thaw, SX.frz, SX.fixB, SX.rootIx, SX.Froz, SX.frzStep, SX.fork, Go.Value.cells, Go.undef, cfg11, hxy]
      refine ⟨by (unfold SX.Ob; first | trivial | omega | ((try simp only [SX.inK]); (try simp [SX.den, SX.IsU8, SX.AllP, *]); (try omega))), ?_⟩
      intro a8 w8 hr8 _
      exact post_rnd (L.length - (k + 1)) (by omega) ⟨k + 1, rfl, hlt, fun j hj => (by
        rcases Nat.lt_or_ge j k with h | h
        · exact hs j h
        · obtain rfl : j = k := by omega
          rw [hx, hy, hxy]), hr8.re (by simp [envTo, SX.look, den]) trivial rfl rfl⟩
    · refine seg cfg11_ok mixed PanicFree.body 1000 [true] [] hr7 (by first | trivial | exact HpRep.nil | assumption) (by kernel_rfl) fun s_ hs_ => ?_
      simp (maxSteps := 10000000) [SX.vc, SX.stop, SX.contS, SX.contB, SX.contW, SX.contR, SX.contD, SX.sxStep, SX.stepPure, SX.stepNew, SX.stepStore, SX.stepKeep, SX.guardIx, SX.evOp, SX.opd, SX.opds, SX.optOpd, SX.look, SX.putS, SX.gobs, SX.AllP, SX.leave, SX.lookC, SX.lookB, SX.lookT, SX.lookN, SX.findK, SX.evBuiltin, SX.ints, SX.foldI, SX.evBin, SX.evInt, SX.evStr, SX.evEq, SX.arith, SX.evLoad, SX.shapeUp, SX.evFieldAddr, SX.evField, SX.evIndexAddr, SX.evIndex, SX.evFill, SX.evBuild, SX.szs, SX.cellsV, SX.evNew, SX.evStore, SX.spliceL, SX.SV.cells, SX.evConv, SX.evSlice, SX.bnd, SX.evNil, SX.evUn, SX.evPick, SX.pickOpd, SX.popTo, SX.cnd, SX.env0, SX.TD.isAgg, SX.TD.isIface, SX.tails, SX.NotAgg, SX.evLookup, SX.evConvH, SX.evPtrEq, SX.isCells, SX.thaw, SX.frz, SX.fixB, SX.rootIx, SX.Froz, SX.frzStep, SX.fork, Go.Value.cells, Go.undef, cfg11, hxy]
      refine ⟨by (unfold SX.Ob; first | trivial | omega | ((try simp only [SX.inK]); (try simp [SX.den, SX.IsU8, SX.AllP, *]); (try omega))), ?_⟩
      intro a8 w8 hr8 _
      refine post_retn (end1 hr8 rfl rfl ⟨ret_dec ?_, hr8.keeps.toBelow⟩).1
      simp only [Bool.false_eq_true, false_iff]
      rintro rfl
      exact hxy (hx.symm.trans hy)
  · obtain rfl : k = L.length := by omega
    refine seg cfg11_ok mixed PanicFree.body 1000 [false] [] hr2 (by first | trivial | exact HpRep.nil | assumption) (by kernel_rfl) fun s_ hs_ => ?_
    simp (maxSteps := 10000000) [SX.vc, SX.stop, SX.contS, SX.contB, SX.contW, SX.contR, SX.contD, SX.sxStep, SX.stepPure, SX.stepNew, SX.stepStore, SX.stepKeep, SX.guardIx, SX.evOp, SX.opd, SX.opds, SX.optOpd, SX.look, SX.putS, SX.gobs, SX.AllP, SX.leave, SX.lookC, SX.lookB, SX.lookT, SX.lookN, SX.findK, SX.evBuiltin, SX.ints, SX.foldI, SX.evBin, SX.evInt, SX.evStr, SX.evEq, SX.arith, SX.evLoad, SX.shapeUp, SX.evFieldAddr, SX.evField, SX.evIndexAddr, SX.evIndex, SX.evFill, SX.evBuild, SX.szs, SX.cellsV, SX.evNew, SX.evStore, SX.spliceL, SX.SV.cells, SX.evConv, SX.evSlice, SX.bnd, SX.evNil, SX.evUn, SX.evPick, SX.pickOpd, SX.popTo, SX.cnd, SX.env0, SX.TD.isAgg, SX.TD.isIface, SX.tails, SX.NotAgg, SX.evLookup, SX.evConvH, SX.evPtrEq, SX.isCells, SX.thaw, SX.frz, SX.fixB, SX.rootIx, SX.Froz, SX.frzStep, SX.fork, Go.Value.cells, Go.undef, cfg11]
    refine ⟨by (unfold SX.Ob; first | trivial | omega | ((try simp only [SX.inK]); (try simp [SX.den, SX.IsU8, SX.AllP, *]); (try omega))), ?_⟩
    intro a3 w3 hr3 _
    refine post_retn (end1 hr3 rfl rfl ⟨ret_dec ?_, hr3.keeps.toBelow⟩).1
    simp only [true_iff]
    exact nth_spn hl hs

/-- Sorted, what is equal as it stood. -/
def StabP (key : HEv → Int) (L R : List HEv) : Prop := R.length = L.length ∧ (∀ c, R.filter (fun x => decide (key x = c)) = L.filter (fun x => decide (key x = c))) ∧ R.Pairwise fun x y => key x ≤ key y
theorem StabP.short {key : HEv → Int} {L : List HEv} (h : L.length ≤ 1) : StabP key L L := by
  refine ⟨rfl, fun _ => rfl, ?_⟩
  rcases L with _ | ⟨x, _ | ⟨y, r⟩⟩
  · exact List.Pairwise.nil
  · simp
  · simp at h
theorem StabP.mem {key : HEv → Int} {L R : List HEv} (h : StabP key L R) {x : HEv} : x ∈ R ↔ x ∈ L := by
  have e := h.2.1 (key x)
  constructor
  · intro hx
    have : x ∈ R.filter (fun y => decide (key y = key x)) := List.mem_filter.2 ⟨hx, by simp⟩
    rw [e] at this
    exact (List.mem_filter.1 this).1
  · intro hx
    have : x ∈ L.filter (fun y => decide (key y = key x)) := List.mem_filter.2 ⟨hx, by simp⟩
    rw [← e] at this
    exact (List.mem_filter.1 this).1
theorem StabP.congr {key key' : HEv → Int} {L R : List HEv} (h : StabP key L R) (hk : ∀ x ∈ L, key x = key' x) : StabP key' L R := by
  have hR : ∀ x ∈ R, key x = key' x := fun x hx => hk x (h.mem.1 hx)
  refine ⟨h.1, fun c => ?_, ?_⟩
  · have e := h.2.1 c
    rw [List.filter_congr (q := fun x => decide (key' x = c)) (fun x hx => by rw [hR x hx]), List.filter_congr (q := fun x => decide (key' x = c)) (l := L) (fun x hx => by rw [hk x hx])] at e
    exact e
  · refine List.Pairwise.imp_of_mem ?_ h.2.2
    intro x y hx hy hxy
    rw [← hR x hx, ← hR y hy]
    exact hxy

theorem stab_uniq {key : HEv → Int} : ∀ {A B : List HEv}, A.length = B.length → (∀ c, A.filter (fun x => decide (key x = c)) = B.filter (fun x => decide (key x = c))) → A.Pairwise (fun x y => key x ≤ key y) → B.Pairwise (fun x y => key x ≤ key y) → A = B
  | [], B, hl, _, _, _ => (List.eq_nil_of_length_eq_zero hl.symm).symm
  | a :: A, [], hl, _, _, _ => by simp at hl
  | a :: A, b :: B, hl, hf, hA, hB => by
    have hA1 := List.pairwise_cons.1 hA
    have hB1 := List.pairwise_cons.1 hB
    have m1 : a ∈ b :: B := by
      have h : a ∈ (a :: A).filter (fun x => decide (key x = key a)) := List.mem_filter.2 ⟨List.mem_cons_self, by simp⟩
      rw [hf] at h
      exact (List.mem_filter.1 h).1
    have m2 : b ∈ a :: A := by
      have h : b ∈ (b :: B).filter (fun x => decide (key x = key b)) := List.mem_filter.2 ⟨List.mem_cons_self, by simp⟩
      rw [← hf] at h
      exact (List.mem_filter.1 h).1
    have k1 : key b ≤ key a := by
      rcases List.mem_cons.1 m1 with h | h
      · rw [h]; exact Int.le_refl _
      · exact hB1.1 a h
    have k2 : key a ≤ key b := by
      rcases List.mem_cons.1 m2 with h | h
      · rw [h]; exact Int.le_refl _
      · exact hA1.1 b h
    have hab : a = b := by
      have h := hf (key a)
      rw [List.filter_cons_of_pos (by simp), List.filter_cons_of_pos (by simp; omega)] at h
      exact (List.cons.inj h).1
    subst hab
    congr 1
    refine stab_uniq (by simpa using hl) (fun c => ?_) hA1.2 hB1.2
    have h := hf c
    by_cases hc : key a = c
    · rw [List.filter_cons_of_pos (by simp [hc]), List.filter_cons_of_pos (by simp [hc])] at h
      exact (List.cons.inj h).2
    · rw [List.filter_cons_of_neg (by simp [hc]), List.filter_cons_of_neg (by simp [hc])] at h
      exact h
theorem StabP.uniq {key : HEv → Int} {L A B : List HEv} (hA : StabP key L A) (hB : StabP key L B) : A = B :=
  stab_uniq (hA.1.trans hB.1.symm) (fun c => (hA.2.1 c).trans (hB.2.1 c).symm) hA.2.2 hB.2.2
theorem StabP.filter {key : HEv → Int} {L A : List HEv} (hA : StabP key L A) (p : HEv → Bool) : StabP key (L.filter p) (A.filter p) := by
  have hf : ∀ c, (A.filter p).filter (fun x => decide (key x = c)) = (L.filter p).filter (fun x => decide (key x = c)) := fun c => by
    rw [List.filter_filter, List.filter_filter]
    have h := congrArg (List.filter p) (hA.2.1 c)
    rw [List.filter_filter, List.filter_filter] at h
    have e : ∀ M : List HEv, M.filter (fun x => decide (key x = c) && p x) = M.filter (fun x => p x && decide (key x = c)) := fun M => by
      congr 1
      funext x
      exact Bool.and_comm _ _
    rw [e, e]
    exact h
  refine ⟨?_, hf, hA.2.2.sublist List.filter_sublist⟩
  have hp : (A.filter p).Perm (L.filter p) := by
    have : A.Perm L := by
      rw [List.perm_iff_count]
      intro x
      have h := congrArg (List.count x) (hA.2.1 (key x))
      rw [List.count_filter (by simp), List.count_filter (by simp)] at h
      exact h
    exact this.filter p
  exact hp.length_eq
theorem StabP.perm {key : HEv → Int} {L A : List HEv} (hA : StabP key L A) : A.Perm L := by
  rw [List.perm_iff_count]
  intro x
  have h := congrArg (List.count x) (hA.2.1 (key x))
  rw [List.count_filter (by simp), List.count_filter (by simp)] at h
  exact h
set_option maxRecDepth 100000 in
set_option maxHeartbeats 16000000 in
/-- insertionSort of one thing or none. -/
theorem ins1_ok (w : World) (ad : Option Addr) (n cp c : Nat) (hn : n ≤ 1) : Calls Try.prog 28 (denL [.v (.slice ad n cp), .v (.int .i64 0), .v (.int .i64 n), .fn (.func 17) [] []]).toArray w (fun e w' => e = .returned (.tuple #[]) ∧ Below w.heap.size w w') := by
  refine enter (F := frame0 w) Try.func28 rfl [.v (.slice ad n cp), .v (.int .i64 0), .v (.int .i64 n), .fn (.func 17) [] []] [] (by simp [Try.f28]) trivial (keeps0 w) fun a hr => ?_
  have h1 : ¬ (1 : Int) < n := by omega
  refine seg cfg28_ok mixed PanicFree.body 1000 [] [] hr (by first | trivial | exact HpRep.nil | assumption) (by kernel_rfl) fun s_ hs_ => ?_
  simp (maxSteps := 10000000) [SX.vc, SX.stop, SX.contS, SX.contB, SX.contW, SX.contR, SX.contD, SX.sxStep, SX.stepPure, SX.stepNew, SX.stepStore, SX.stepKeep, SX.guardIx, SX.evOp, SX.opd, SX.opds, SX.optOpd, SX.look, SX.putS, SX.gobs, SX.AllP, SX.leave, SX.lookC, SX.lookB, SX.lookT, SX.lookN, SX.findK, SX.evBuiltin, SX.ints, SX.foldI, SX.evBin, SX.evInt, SX.evStr, SX.evEq, SX.arith, SX.evLoad, SX.shapeUp, SX.evFieldAddr, SX.evField, SX.evIndexAddr, SX.evIndex, SX.evFill, SX.evBuild, SX.szs, SX.cellsV, SX.evNew, SX.evStore, SX.spliceL, SX.SV.cells, SX.evConv, SX.evSlice, SX.bnd, SX.evNil, SX.evUn, SX.evPick, SX.pickOpd, SX.popTo, SX.cnd, SX.env0, SX.TD.isAgg, SX.TD.isIface, SX.tails, SX.NotAgg, SX.evLookup, SX.evConvH, SX.evPtrEq, SX.isCells, SX.thaw, SX.frz, SX.fixB, SX.rootIx, SX.Froz, SX.frzStep, SX.fork, Go.Value.cells, Go.undef, cfg28, Try.f28]
  refine ⟨by (unfold SX.Ob; first | trivial | omega | ((try simp only [SX.inK]); (try simp [SX.den, SX.IsU8, SX.AllP, *]); (try omega))), ?_⟩
  intro a1 w1 hr1 _
  refine post_loop (fun m a w' => m = 0 ∧ RepX (frame0 w) ⟨[(8, 0, .v (.int .i64 1)), (2, 0, .v (.int .i64 n))], [], 0, 0, 53, [], [], []⟩ a w') 0 ⟨rfl, hr1.re (by simp [envTo, SX.look]) trivial rfl rfl⟩ ?_
  rintro m a2 w2 ⟨rfl, hr2⟩
  refine seg cfg28_ok mixed PanicFree.body 1000 [false] [] hr2 (by first | trivial | exact HpRep.nil | assumption) (by kernel_rfl) fun s_ hs_ => ?_
  simp (maxSteps := 10000000) [SX.vc, SX.stop, SX.contS, SX.contB, SX.contW, SX.contR, SX.contD, SX.sxStep, SX.stepPure, SX.stepNew, SX.stepStore, SX.stepKeep, SX.guardIx, SX.evOp, SX.opd, SX.opds, SX.optOpd, SX.look, SX.putS, SX.gobs, SX.AllP, SX.leave, SX.lookC, SX.lookB, SX.lookT, SX.lookN, SX.findK, SX.evBuiltin, SX.ints, SX.foldI, SX.evBin, SX.evInt, SX.evStr, SX.evEq, SX.arith, SX.evLoad, SX.shapeUp, SX.evFieldAddr, SX.evField, SX.evIndexAddr, SX.evIndex, SX.evFill, SX.evBuild, SX.szs, SX.cellsV, SX.evNew, SX.evStore, SX.spliceL, SX.SV.cells, SX.evConv, SX.evSlice, SX.bnd, SX.evNil, SX.evUn, SX.evPick, SX.pickOpd, SX.popTo, SX.cnd, SX.env0, SX.TD.isAgg, SX.TD.isIface, SX.tails, SX.NotAgg, SX.evLookup, SX.evConvH, SX.evPtrEq, SX.isCells, SX.thaw, SX.frz, SX.fixB, SX.rootIx, SX.Froz, SX.frzStep, SX.fork, Go.Value.cells, Go.undef, cfg28, h1]
  refine ⟨by (unfold SX.Ob; first | trivial | omega | ((try simp only [SX.inK]); (try simp [SX.den, SX.IsU8, SX.AllP, *]); (try omega))), ?_⟩
  intro a3 w3 hr3 _
  exact post_nil (end0 hr3 rfl ⟨rfl, hr3.keeps.toBelow⟩).2

set_option maxRecDepth 100000 in
set_option maxHeartbeats 16000000 in
/-- stableCmpFunc of one thing or none. -/
theorem stable1_ok (w : World) (ad : Option Addr) (n cp c : Nat) (hn : n ≤ 1) : Calls Try.prog 22 (denL [.v (.slice ad n cp), .v (.int .i64 n), .fn (.func 17) [] []]).toArray w (fun e w' => e = .returned (.tuple #[]) ∧ Below w.heap.size w w') := by
  refine enter (F := frame0 w) Try.func22 rfl [.v (.slice ad n cp), .v (.int .i64 n), .fn (.func 17) [] []] [] (by simp [Try.f22]) trivial (keeps0 w) fun a hr => ?_
  have h1 : ¬ (20 : Int) ≤ n := by omega
  have h2' : ¬ (20 : Int) < n := by omega
  refine seg cfg22_ok mixed PanicFree.body 1000 [] [] hr (by first | trivial | exact HpRep.nil | assumption) (by kernel_rfl) fun s_ hs_ => ?_
  simp (maxSteps := 10000000) [SX.vc, SX.stop, SX.contS, SX.contB, SX.contW, SX.contR, SX.contD, SX.sxStep, SX.stepPure, SX.stepNew, SX.stepStore, SX.stepKeep, SX.guardIx, SX.evOp, SX.opd, SX.opds, SX.optOpd, SX.look, SX.putS, SX.gobs, SX.AllP, SX.leave, SX.lookC, SX.lookB, SX.lookT, SX.lookN, SX.findK, SX.evBuiltin, SX.ints, SX.foldI, SX.evBin, SX.evInt, SX.evStr, SX.evEq, SX.arith, SX.evLoad, SX.shapeUp, SX.evFieldAddr, SX.evField, SX.evIndexAddr, SX.evIndex, SX.evFill, SX.evBuild, SX.szs, SX.cellsV, SX.evNew, SX.evStore, SX.spliceL, SX.SV.cells, SX.evConv, SX.evSlice, SX.bnd, SX.evNil, SX.evUn, SX.evPick, SX.pickOpd, SX.popTo, SX.cnd, SX.env0, SX.TD.isAgg, SX.TD.isIface, SX.tails, SX.NotAgg, SX.evLookup, SX.evConvH, SX.evPtrEq, SX.isCells, SX.thaw, SX.frz, SX.fixB, SX.rootIx, SX.Froz, SX.frzStep, SX.fork, Go.Value.cells, Go.undef, cfg22, Try.f22]
  refine ⟨by (unfold SX.Ob; first | trivial | omega | ((try simp only [SX.inK]); (try simp [SX.den, SX.IsU8, SX.AllP, *]); (try omega))), ?_⟩
  intro a1 w1 hr1 _
  refine post_loop (fun m a w' => m = 0 ∧ RepX (frame0 w) ⟨[(6, 0, .v (.int .i64 20)), (7, 0, .v (.int .i64 0)), (8, 0, .v (.int .i64 20)), (0, 0, .v (.slice ad n cp)), (1, 0, .v (.int .i64 n)), (2, 0, .fn (.func 17) [] [])], [], 0, 0, 63, [], [], []⟩ a w') 0 ⟨rfl, hr1.re (by simp [envTo, SX.look]) trivial rfl rfl⟩ ?_
  rintro m a2 w2 ⟨rfl, hr2⟩
  refine seg cfg22_ok mixed PanicFree.body 1000 [false] [] hr2 (by first | trivial | exact HpRep.nil | assumption) (by kernel_rfl) fun s_ hs_ => ?_
  simp (maxSteps := 10000000) [SX.vc, SX.stop, SX.contS, SX.contB, SX.contW, SX.contR, SX.contD, SX.sxStep, SX.stepPure, SX.stepNew, SX.stepStore, SX.stepKeep, SX.guardIx, SX.evOp, SX.opd, SX.opds, SX.optOpd, SX.look, SX.putS, SX.gobs, SX.AllP, SX.leave, SX.lookC, SX.lookB, SX.lookT, SX.lookN, SX.findK, SX.evBuiltin, SX.ints, SX.foldI, SX.evBin, SX.evInt, SX.evStr, SX.evEq, SX.arith, SX.evLoad, SX.shapeUp, SX.evFieldAddr, SX.evField, SX.evIndexAddr, SX.evIndex, SX.evFill, SX.evBuild, SX.szs, SX.cellsV, SX.evNew, SX.evStore, SX.spliceL, SX.SV.cells, SX.evConv, SX.evSlice, SX.bnd, SX.evNil, SX.evUn, SX.evPick, SX.pickOpd, SX.popTo, SX.cnd, SX.env0, SX.TD.isAgg, SX.TD.isIface, SX.tails, SX.NotAgg, SX.evLookup, SX.evConvH, SX.evPtrEq, SX.isCells, SX.thaw, SX.frz, SX.fixB, SX.rootIx, SX.Froz, SX.frzStep, SX.fork, Go.Value.cells, Go.undef, cfg22, h1]
  refine ⟨by (unfold SX.Ob; first | trivial | omega | ((try simp only [SX.inK]); (try simp [SX.den, SX.IsU8, SX.AllP, *]); (try omega))), ?_⟩
  intro a3 w3 hr3 _
  refine post_call 28 [.v (.slice ad n cp), .v (.int .i64 0), .v (.int .i64 n), .fn (.func 17) [] []] hr3 (by first | exact wanted_none rfl | exact wanted_zero (hr3.env.same rfl rfl rfl rfl) rfl (by simp) | exact wanted_zero (hr3.env.same rfl rfl rfl rfl) rfl (by simp [*])) rfl (callable 28 Try.func28) (ins1_ok w3 ad n cp c hn) ?_
  rintro e4 w4 ⟨rfl, hb4⟩
  refine ⟨_, rfl, ?_⟩
  have h4 := hr3.ret hb4 27 (.tu []) rfl _ (hr3.all.below hb4) (by simp) rfl
  refine seg cfg22_ok mixed PanicFree.body 1000 [] [] h4 (by first | trivial | exact HpRep.nil | assumption) (by kernel_rfl) fun s_ hs_ => ?_
  simp (maxSteps := 10000000) [SX.vc, SX.stop, SX.contS, SX.contB, SX.contW, SX.contR, SX.contD, SX.sxStep, SX.stepPure, SX.stepNew, SX.stepStore, SX.stepKeep, SX.guardIx, SX.evOp, SX.opd, SX.opds, SX.optOpd, SX.look, SX.putS, SX.gobs, SX.AllP, SX.leave, SX.lookC, SX.lookB, SX.lookT, SX.lookN, SX.findK, SX.evBuiltin, SX.ints, SX.foldI, SX.evBin, SX.evInt, SX.evStr, SX.evEq, SX.arith, SX.evLoad, SX.shapeUp, SX.evFieldAddr, SX.evField, SX.evIndexAddr, SX.evIndex, SX.evFill, SX.evBuild, SX.szs, SX.cellsV, SX.evNew, SX.evStore, SX.spliceL, SX.SV.cells, SX.evConv, SX.evSlice, SX.bnd, SX.evNil, SX.evUn, SX.evPick, SX.pickOpd, SX.popTo, SX.cnd, SX.env0, SX.TD.isAgg, SX.TD.isIface, SX.tails, SX.NotAgg, SX.evLookup, SX.evConvH, SX.evPtrEq, SX.isCells, SX.thaw, SX.frz, SX.fixB, SX.rootIx, SX.Froz, SX.frzStep, SX.fork, Go.Value.cells, Go.undef, cfg22]
  refine ⟨by (unfold SX.Ob; first | trivial | omega | ((try simp only [SX.inK]); (try simp [SX.den, SX.IsU8, SX.AllP, *]); (try omega))), ?_⟩
  intro a5 w5 hr5 _
  refine post_loop (fun m a w' => m = 0 ∧ RepX (frame0 w) ⟨[(6, 0, .v (.int .i64 20)), (1, 0, .v (.int .i64 n))], [], 0, 0, 63, [], [], []⟩ a w') 0 ⟨rfl, hr5.re (by simp [envTo, SX.look]) trivial rfl rfl⟩ ?_
  rintro m a6 w6 ⟨rfl, hr6⟩
  refine seg cfg22_ok mixed PanicFree.body 1000 [false] [] hr6 (by first | trivial | exact HpRep.nil | assumption) (by kernel_rfl) fun s_ hs_ => ?_
  simp (maxSteps := 10000000) [SX.vc, SX.stop, SX.contS, SX.contB, SX.contW, SX.contR, SX.contD, SX.sxStep, SX.stepPure, SX.stepNew, SX.stepStore, SX.stepKeep, SX.guardIx, SX.evOp, SX.opd, SX.opds, SX.optOpd, SX.look, SX.putS, SX.gobs, SX.AllP, SX.leave, SX.lookC, SX.lookB, SX.lookT, SX.lookN, SX.findK, SX.evBuiltin, SX.ints, SX.foldI, SX.evBin, SX.evInt, SX.evStr, SX.evEq, SX.arith, SX.evLoad, SX.shapeUp, SX.evFieldAddr, SX.evField, SX.evIndexAddr, SX.evIndex, SX.evFill, SX.evBuild, SX.szs, SX.cellsV, SX.evNew, SX.evStore, SX.spliceL, SX.SV.cells, SX.evConv, SX.evSlice, SX.bnd, SX.evNil, SX.evUn, SX.evPick, SX.pickOpd, SX.popTo, SX.cnd, SX.env0, SX.TD.isAgg, SX.TD.isIface, SX.tails, SX.NotAgg, SX.evLookup, SX.evConvH, SX.evPtrEq, SX.isCells, SX.thaw, SX.frz, SX.fixB, SX.rootIx, SX.Froz, SX.frzStep, SX.fork, Go.Value.cells, Go.undef, cfg22, h2']
  refine ⟨by (unfold SX.Ob; first | trivial | omega | ((try simp only [SX.inK]); (try simp [SX.den, SX.IsU8, SX.AllP, *]); (try omega))), ?_⟩
  intro a7 w7 hr7 _
  exact post_nil (end0 hr7 rfl ⟨rfl, hr7.keeps.toBelow⟩).2

set_option maxRecDepth 100000 in
set_option maxHeartbeats 16000000 in
/-- SortStableFunc of one thing or none. -/
theorem sort1_ok (w : World) (ad : Option Addr) (n cp c : Nat) (hn : n ≤ 1) : Calls Try.prog 16 (denL [.v (.slice ad n cp), .fn (.func 17) [] []]).toArray w (fun e w' => e = .returned (.tuple #[]) ∧ Below w.heap.size w w') := by
  refine enter (F := frame0 w) Try.func16 rfl [.v (.slice ad n cp), .fn (.func 17) [] []] [] (by simp [Try.f16]) trivial (keeps0 w) fun a hr => ?_
  refine seg cfg16_ok mixed PanicFree.body 1000 [] [] hr (by first | trivial | exact HpRep.nil | assumption) (by kernel_rfl) fun s_ hs_ => ?_
  simp (maxSteps := 10000000) [SX.vc, SX.stop, SX.contS, SX.contB, SX.contW, SX.contR, SX.contD, SX.sxStep, SX.stepPure, SX.stepNew, SX.stepStore, SX.stepKeep, SX.guardIx, SX.evOp, SX.opd, SX.opds, SX.optOpd, SX.look, SX.putS, SX.gobs, SX.AllP, SX.leave, SX.lookC, SX.lookB, SX.lookT, SX.lookN, SX.findK, SX.evBuiltin, SX.ints, SX.foldI, SX.evBin, SX.evInt, SX.evStr, SX.evEq, SX.arith, SX.evLoad, SX.shapeUp, SX.evFieldAddr, SX.evField, SX.evIndexAddr, SX.evIndex, SX.evFill, SX.evBuild, SX.szs, SX.cellsV, SX.evNew, SX.evStore, SX.spliceL, SX.SV.cells, SX.evConv, SX.evSlice, SX.bnd, SX.evNil, SX.evUn, SX.evPick, SX.pickOpd, SX.popTo, SX.cnd, SX.env0, SX.TD.isAgg, SX.TD.isIface, SX.tails, SX.NotAgg, SX.evLookup, SX.evConvH, SX.evPtrEq, SX.isCells, SX.thaw, SX.frz, SX.fixB, SX.rootIx, SX.Froz, SX.frzStep, SX.fork, Go.Value.cells, Go.undef, cfg16, Try.f16]
  refine ⟨by (unfold SX.Ob; first | trivial | omega | ((try simp only [SX.inK]); (try simp [SX.den, SX.IsU8, SX.AllP, *]); (try omega))), ?_⟩
  intro a1 w1 hr1 _
  refine post_call 22 [.v (.slice ad n cp), .v (.int .i64 n), .fn (.func 17) [] []] hr1 (by first | exact wanted_none rfl | exact wanted_zero (hr1.env.same rfl rfl rfl rfl) rfl (by simp) | exact wanted_zero (hr1.env.same rfl rfl rfl rfl) rfl (by simp [*])) rfl (callable 22 Try.func22) (stable1_ok w1 ad n cp c hn) ?_
  rintro e4 w4 ⟨rfl, hb4⟩
  refine ⟨_, rfl, ?_⟩
  have h4 := hr1.ret hb4 8 (.tu []) rfl _ (hr1.all.below hb4) (by simp) rfl
  refine seg cfg16_ok mixed PanicFree.body 1000 [] [] h4 (by first | trivial | exact HpRep.nil | assumption) (by kernel_rfl) fun s_ hs_ => ?_
  simp (maxSteps := 10000000) [SX.vc, SX.stop, SX.contS, SX.contB, SX.contW, SX.contR, SX.contD, SX.sxStep, SX.stepPure, SX.stepNew, SX.stepStore, SX.stepKeep, SX.guardIx, SX.evOp, SX.opd, SX.opds, SX.optOpd, SX.look, SX.putS, SX.gobs, SX.AllP, SX.leave, SX.lookC, SX.lookB, SX.lookT, SX.lookN, SX.findK, SX.evBuiltin, SX.ints, SX.foldI, SX.evBin, SX.evInt, SX.evStr, SX.evEq, SX.arith, SX.evLoad, SX.shapeUp, SX.evFieldAddr, SX.evField, SX.evIndexAddr, SX.evIndex, SX.evFill, SX.evBuild, SX.szs, SX.cellsV, SX.evNew, SX.evStore, SX.spliceL, SX.SV.cells, SX.evConv, SX.evSlice, SX.bnd, SX.evNil, SX.evUn, SX.evPick, SX.pickOpd, SX.popTo, SX.cnd, SX.env0, SX.TD.isAgg, SX.TD.isIface, SX.tails, SX.NotAgg, SX.evLookup, SX.evConvH, SX.evPtrEq, SX.isCells, SX.thaw, SX.frz, SX.fixB, SX.rootIx, SX.Froz, SX.frzStep, SX.fork, Go.Value.cells, Go.undef, cfg16]
  refine ⟨by (unfold SX.Ob; first | trivial | omega | ((try simp only [SX.inK]); (try simp [SX.den, SX.IsU8, SX.AllP, *]); (try omega))), ?_⟩
  intro a5 w5 hr5 _
  exact post_nil (end0 hr5 rfl ⟨rfl, hr5.keeps.toBelow⟩).2


set_option maxRecDepth 100000 in
set_option maxHeartbeats 16000000 in
/-- Order's closure. -/
theorem cmp17_ok (w : World) (x y : HEv) : Calls Try.prog 17 (denL [.ag (evRow x), .ag (evRow y)]).toArray w (Ret w (.v (.int .i64 (cmpI x.at_ y.at_)))) := by
  refine enter (F := frame0 w) Try.func17 rfl [.ag (evRow x), .ag (evRow y)] [] (by simp [Try.f17]) trivial (keeps0 w) fun a hr => ?_
  refine seg cfg17_ok mixed PanicFree.body 1000 [] [] hr (by first | trivial | exact HpRep.nil | assumption) (by kernel_rfl) fun s_ hs_ => ?_
  simp (maxSteps := 10000000) [SX.vc, SX.stop, SX.contS, SX.contB, SX.contW, SX.contR, SX.contD, SX.sxStep, SX.stepPure, SX.stepNew, SX.stepStore, SX.stepKeep, SX.guardIx, SX.evOp, SX.opd, SX.opds, SX.optOpd, SX.look, SX.putS, SX.gobs, SX.AllP, SX.leave, SX.lookC, SX.lookB, SX.lookT, SX.lookN, SX.findK, SX.evBuiltin, SX.ints, SX.foldI, SX.evBin, SX.evInt, SX.evStr, SX.evEq, SX.arith, SX.evLoad, SX.shapeUp, SX.evFieldAddr, SX.evField, SX.evIndexAddr, SX.evIndex, SX.evFill, SX.evBuild, SX.szs, SX.cellsV, SX.evNew, SX.evStore, SX.spliceL, SX.SV.cells, SX.evConv, SX.evSlice, SX.bnd, SX.evNil, SX.evUn, SX.evPick, SX.pickOpd, SX.popTo, SX.cnd, SX.env0, SX.TD.isAgg, SX.TD.isIface, SX.tails, SX.NotAgg, SX.evLookup, SX.evConvH, SX.evPtrEq, SX.isCells, SX.thaw, SX.frz, SX.fixB, SX.rootIx, SX.Froz, SX.frzStep, SX.fork, Go.Value.cells, Go.undef, cfg17, Try.f17, evRow]
  refine ⟨by (unfold SX.Ob; first | trivial | omega | ((try simp only [SX.inK]); (try simp [SX.den, SX.IsU8, SX.AllP, *]); (try omega))), ?_⟩
  intro a1 w1 hr1 _
  refine post_call 18 [.v (.int .i64 x.at_), .v (.int .i64 y.at_)] hr1 (by first | exact wanted_none rfl | exact wanted_zero (hr1.env.same rfl rfl rfl rfl) rfl (by simp) | exact wanted_zero (hr1.env.same rfl rfl rfl rfl) rfl (by simp [*])) rfl (callable 18 Try.func18) (cmp_ok w1 x.at_ y.at_) ?_
  rintro e2 w2 ⟨rfl, hb2⟩
  refine ⟨_, rfl, ?_⟩
  have h2 := hr1.ret hb2 9 (.v (.int .i64 (cmpI x.at_ y.at_))) rfl _ (hr1.all.below hb2) (by simp) rfl
  refine seg cfg17_ok mixed PanicFree.body 1000 [] [] h2 (by first | trivial | exact HpRep.nil | assumption) (by kernel_rfl) fun s_ hs_ => ?_
  simp (maxSteps := 10000000) [SX.vc, SX.stop, SX.contS, SX.contB, SX.contW, SX.contR, SX.contD, SX.sxStep, SX.stepPure, SX.stepNew, SX.stepStore, SX.stepKeep, SX.guardIx, SX.evOp, SX.opd, SX.opds, SX.optOpd, SX.look, SX.putS, SX.gobs, SX.AllP, SX.leave, SX.lookC, SX.lookB, SX.lookT, SX.lookN, SX.findK, SX.evBuiltin, SX.ints, SX.foldI, SX.evBin, SX.evInt, SX.evStr, SX.evEq, SX.arith, SX.evLoad, SX.shapeUp, SX.evFieldAddr, SX.evField, SX.evIndexAddr, SX.evIndex, SX.evFill, SX.evBuild, SX.szs, SX.cellsV, SX.evNew, SX.evStore, SX.spliceL, SX.SV.cells, SX.evConv, SX.evSlice, SX.bnd, SX.evNil, SX.evUn, SX.evPick, SX.pickOpd, SX.popTo, SX.cnd, SX.env0, SX.TD.isAgg, SX.TD.isIface, SX.tails, SX.NotAgg, SX.evLookup, SX.evConvH, SX.evPtrEq, SX.isCells, SX.thaw, SX.frz, SX.fixB, SX.rootIx, SX.Froz, SX.frzStep, SX.fork, Go.Value.cells, Go.undef, cfg17]
  refine ⟨by (unfold SX.Ob; first | trivial | omega | ((try simp only [SX.inK]); (try simp [SX.den, SX.IsU8, SX.AllP, *]); (try omega))), ?_⟩
  intro a3 w3 hr3 _
  exact post_retn (end1 hr3 rfl rfl ⟨rfl, hr3.keeps.toBelow⟩).1
def OrderR (w : World) (L : List HEv) (e : Ending) (w' : World) : Prop := ∃ (v : Value) (R : List HEv), e = .returned (den (.v v)) ∧ RdH (fun x => w.heap.size ≤ x) w' v R ∧ StabP HEv.at_ L R ∧ Below w.heap.size w w'

set_option maxRecDepth 100000 in
set_option maxHeartbeats 16000000 in
/-- Order. -/
theorem Order_ok {P : Nat → Prop} (w : World) (v : Value) (L : List HEv) (hL : RdH P w v L) (hn : L.length ≤ 1000) : Calls Try.prog 10 (denL [.v v]).toArray w (OrderR w L) := by
  refine enter (F := frame0 w) Try.func10 rfl [.v v] [] (by simp [Try.f10]) trivial (keeps0 w) fun a hr => ?_
  refine seg cfg10_ok mixed PanicFree.body 1000 [] [] hr (by first | trivial | exact HpRep.nil | assumption) (by kernel_rfl) fun s_ hs_ => ?_
  simp (maxSteps := 10000000) [SX.vc, SX.stop, SX.contS, SX.contB, SX.contW, SX.contR, SX.contD, SX.sxStep, SX.stepPure, SX.stepNew, SX.stepStore, SX.stepKeep, SX.guardIx, SX.evOp, SX.opd, SX.opds, SX.optOpd, SX.look, SX.putS, SX.gobs, SX.AllP, SX.leave, SX.lookC, SX.lookB, SX.lookT, SX.lookN, SX.findK, SX.evBuiltin, SX.ints, SX.foldI, SX.evBin, SX.evInt, SX.evStr, SX.evEq, SX.arith, SX.evLoad, SX.shapeUp, SX.evFieldAddr, SX.evField, SX.evIndexAddr, SX.evIndex, SX.evFill, SX.evBuild, SX.szs, SX.cellsV, SX.evNew, SX.evStore, SX.spliceL, SX.SV.cells, SX.evConv, SX.evSlice, SX.bnd, SX.evNil, SX.evUn, SX.evPick, SX.pickOpd, SX.popTo, SX.cnd, SX.env0, SX.TD.isAgg, SX.TD.isIface, SX.tails, SX.NotAgg, SX.evLookup, SX.evConvH, SX.evPtrEq, SX.isCells, SX.thaw, SX.frz, SX.fixB, SX.rootIx, SX.Froz, SX.frzStep, SX.fork, Go.Value.cells, Go.undef, cfg10, Try.f10]
  refine ⟨by (unfold SX.Ob; first | trivial | omega | ((try simp only [SX.inK]); (try simp [SX.den, SX.IsU8, SX.AllP, *]); (try omega))), ?_⟩
  intro a1 w1 hr1 _
  have z1 : w.heap.size ≤ w1.heap.size := hr1.keeps.size
  refine post_call 15 [.v v] hr1 (by first | exact wanted_none rfl | exact wanted_zero (hr1.env.same rfl rfl rfl rfl) rfl (by simp) | exact wanted_zero (hr1.env.same rfl rfl rfl rfl) rfl (by simp [*])) rfl (callable 15 Try.func15) (clone_all w1 v L (hL.below hr1.keeps.toBelow) (by omega)) ?_
  rintro e2 w2 ⟨v2, rfl, hO2, hb2⟩
  refine ⟨_, rfl, ?_⟩
  have h2 := hr1.ret hb2 5 (.v v2) rfl _ (hr1.all.below hb2) (by simp) rfl
  rcases Nat.eq_zero_or_pos L.length with h0 | h0
  · obtain rfl : L = [] := List.eq_nil_of_length_eq_zero h0
    obtain ⟨ad2, cp2, rfl⟩ := hO2.slice
    refine seg cfg10_ok mixed PanicFree.body 1000 [] [] h2 (by first | trivial | exact HpRep.nil | assumption) (by kernel_rfl) fun s_ hs_ => ?_
    simp (maxSteps := 10000000) [SX.vc, SX.stop, SX.contS, SX.contB, SX.contW, SX.contR, SX.contD, SX.sxStep, SX.stepPure, SX.stepNew, SX.stepStore, SX.stepKeep, SX.guardIx, SX.evOp, SX.opd, SX.opds, SX.optOpd, SX.look, SX.putS, SX.gobs, SX.AllP, SX.leave, SX.lookC, SX.lookB, SX.lookT, SX.lookN, SX.findK, SX.evBuiltin, SX.ints, SX.foldI, SX.evBin, SX.evInt, SX.evStr, SX.evEq, SX.arith, SX.evLoad, SX.shapeUp, SX.evFieldAddr, SX.evField, SX.evIndexAddr, SX.evIndex, SX.evFill, SX.evBuild, SX.szs, SX.cellsV, SX.evNew, SX.evStore, SX.spliceL, SX.SV.cells, SX.evConv, SX.evSlice, SX.bnd, SX.evNil, SX.evUn, SX.evPick, SX.pickOpd, SX.popTo, SX.cnd, SX.env0, SX.TD.isAgg, SX.TD.isIface, SX.tails, SX.NotAgg, SX.evLookup, SX.evConvH, SX.evPtrEq, SX.isCells, SX.thaw, SX.frz, SX.fixB, SX.rootIx, SX.Froz, SX.frzStep, SX.fork, Go.Value.cells, Go.undef, cfg10]
    refine ⟨by (unfold SX.Ob; first | trivial | omega | ((try simp only [SX.inK]); (try simp [SX.den, SX.IsU8, SX.AllP, *]); (try omega))), ?_⟩
    intro a3 w3 hr3 _
    refine post_call 16 [.v (.slice ad2 0 cp2), .fn (.func 17) [] []] hr3 (by first | exact wanted_none rfl | exact wanted_zero (hr3.env.same rfl rfl rfl rfl) rfl (by simp) | exact wanted_zero (hr3.env.same rfl rfl rfl rfl) rfl (by simp [*])) rfl (callable 16 Try.func16) (sort1_ok w3 ad2 0 cp2 0 (by omega)) ?_
    rintro e4 w4 ⟨rfl, hb4⟩
    refine ⟨_, rfl, ?_⟩
    have h4 := hr3.ret hb4 7 (.tu []) rfl _ (hr3.all.below hb4) (by simp) rfl
    refine seg cfg10_ok mixed PanicFree.body 1000 [] [] h4 (by first | trivial | exact HpRep.nil | assumption) (by kernel_rfl) fun s_ hs_ => ?_
    simp (maxSteps := 10000000) [SX.vc, SX.stop, SX.contS, SX.contB, SX.contW, SX.contR, SX.contD, SX.sxStep, SX.stepPure, SX.stepNew, SX.stepStore, SX.stepKeep, SX.guardIx, SX.evOp, SX.opd, SX.opds, SX.optOpd, SX.look, SX.putS, SX.gobs, SX.AllP, SX.leave, SX.lookC, SX.lookB, SX.lookT, SX.lookN, SX.findK, SX.evBuiltin, SX.ints, SX.foldI, SX.evBin, SX.evInt, SX.evStr, SX.evEq, SX.arith, SX.evLoad, SX.shapeUp, SX.evFieldAddr, SX.evField, SX.evIndexAddr, SX.evIndex, SX.evFill, SX.evBuild, SX.szs, SX.cellsV, SX.evNew, SX.evStore, SX.spliceL, SX.SV.cells, SX.evConv, SX.evSlice, SX.bnd, SX.evNil, SX.evUn, SX.evPick, SX.pickOpd, SX.popTo, SX.cnd, SX.env0, SX.TD.isAgg, SX.TD.isIface, SX.tails, SX.NotAgg, SX.evLookup, SX.evConvH, SX.evPtrEq, SX.isCells, SX.thaw, SX.frz, SX.fixB, SX.rootIx, SX.Froz, SX.frzStep, SX.fork, Go.Value.cells, Go.undef, cfg10]
    refine ⟨by (unfold SX.Ob; first | trivial | omega | ((try simp only [SX.inK]); (try simp [SX.den, SX.IsU8, SX.AllP, *]); (try omega))), ?_⟩
    intro a5 w5 hr5 _
    exact post_retn (end1 hr5 rfl rfl ⟨_, [], rfl, .inl ⟨rfl, _, _, rfl⟩, StabP.short (by simp), hr5.keeps.toBelow⟩).1
  · obtain ⟨b, N, cap, u, row, hPb, rfl, hc0, hc1, hc2, hrep, hrow⟩ := hO2.opn h0
    refine seg cfg10_ok mixed PanicFree.body 1000 [] [] h2.rebase (by first | trivial | exact HpRep.nil | assumption) (by kernel_rfl) fun s_ hs_ => ?_
    simp (maxSteps := 10000000) [SX.vc, SX.stop, SX.contS, SX.contB, SX.contW, SX.contR, SX.contD, SX.sxStep, SX.stepPure, SX.stepNew, SX.stepStore, SX.stepKeep, SX.guardIx, SX.evOp, SX.opd, SX.opds, SX.optOpd, SX.look, SX.putS, SX.gobs, SX.AllP, SX.leave, SX.lookC, SX.lookB, SX.lookT, SX.lookN, SX.findK, SX.evBuiltin, SX.ints, SX.foldI, SX.evBin, SX.evInt, SX.evStr, SX.evEq, SX.arith, SX.evLoad, SX.shapeUp, SX.evFieldAddr, SX.evField, SX.evIndexAddr, SX.evIndex, SX.evFill, SX.evBuild, SX.szs, SX.cellsV, SX.evNew, SX.evStore, SX.spliceL, SX.SV.cells, SX.evConv, SX.evSlice, SX.bnd, SX.evNil, SX.evUn, SX.evPick, SX.pickOpd, SX.popTo, SX.cnd, SX.env0, SX.TD.isAgg, SX.TD.isIface, SX.tails, SX.NotAgg, SX.evLookup, SX.evConvH, SX.evPtrEq, SX.isCells, SX.thaw, SX.frz, SX.fixB, SX.rootIx, SX.Froz, SX.frzStep, SX.fork, Go.Value.cells, Go.undef, cfg10]
    refine ⟨by (unfold SX.Ob; first | trivial | omega | ((try simp only [SX.inK]); (try simp [SX.den, SX.IsU8, SX.AllP, *]); (try omega))), ?_⟩
    intro a3 w3 hr3' _
    have hr3 := h2.unbase hr3'
    have hrep3 := SO.rep_same hrep (hr3'.keeps.toBelow.block _ (SO.rep_lt hrep))
    have hcm : CmpAt w3 b 0 HEv.at_ (fun _ => True) := fun w' hk x y _ _ => (cmp17_ok w' x y).mono fun e w'' ⟨h1, h2⟩ => ⟨⟨_, h1, cmpI_lt⟩, h2⟩
    have hD : DatF w3 b N u L.length (fun j => nth zeroEv L j) := ⟨by omega, row, hrep3, hrow⟩
    have hsc := sort_ok w3 w3 b N u L.length cap 0 HEv.at_ _ _ hcm (KeepsTo.refl w3 _) hD hn (fun _ _ => trivial)
    refine post_call 16 [.v (.slice (some ⟨b, 0, none⟩) L.length cap), .fn (.func 17) [] []] hr3 (wanted_none rfl) rfl (callable 16 Try.func16) hsc ?_
    rintro e4 w4 ⟨rfl, ⟨g4, ⟨hN4, row4, hrep4, hrow4⟩, hS4, hT4⟩, hk4⟩
    refine ⟨_, rfl, ?_⟩
    have h4 := hr3.retK hk4 (fun x hx => .inl (by
      simp only [List.mem_singleton] at hx
      subst hx
      exact Nat.le_trans z1 hPb)) 7 (.tu []) rfl [] trivial (by simp) rfl
    refine seg cfg10_ok mixed PanicFree.body 1000 [] [] h4.rebase (by first | trivial | exact HpRep.nil | assumption) (by kernel_rfl) fun s_ hs_ => ?_
    simp (maxSteps := 10000000) [SX.vc, SX.stop, SX.contS, SX.contB, SX.contW, SX.contR, SX.contD, SX.sxStep, SX.stepPure, SX.stepNew, SX.stepStore, SX.stepKeep, SX.guardIx, SX.evOp, SX.opd, SX.opds, SX.optOpd, SX.look, SX.putS, SX.gobs, SX.AllP, SX.leave, SX.lookC, SX.lookB, SX.lookT, SX.lookN, SX.findK, SX.evBuiltin, SX.ints, SX.foldI, SX.evBin, SX.evInt, SX.evStr, SX.evEq, SX.arith, SX.evLoad, SX.shapeUp, SX.evFieldAddr, SX.evField, SX.evIndexAddr, SX.evIndex, SX.evFill, SX.evBuild, SX.szs, SX.cellsV, SX.evNew, SX.evStore, SX.spliceL, SX.SV.cells, SX.evConv, SX.evSlice, SX.bnd, SX.evNil, SX.evUn, SX.evPick, SX.pickOpd, SX.popTo, SX.cnd, SX.env0, SX.TD.isAgg, SX.TD.isIface, SX.tails, SX.NotAgg, SX.evLookup, SX.evConvH, SX.evPtrEq, SX.isCells, SX.thaw, SX.frz, SX.fixB, SX.rootIx, SX.Froz, SX.frzStep, SX.fork, Go.Value.cells, Go.undef, cfg10]
    refine ⟨by (unfold SX.Ob; first | trivial | omega | ((try simp only [SX.inK]); (try simp [SX.den, SX.IsU8, SX.AllP, *]); (try omega))), ?_⟩
    intro a5 w5 hr5' _
    have hr5 := h4.unbase hr5'
    have hrep5 := SO.rep_same hrep4 (hr5'.keeps.toBelow.block _ (SO.rep_lt hrep4))
    have hLg : sgm (fun j => nth zeroEv L j) 0 L.length = L := by
      apply List.ext_getElem
      · simp [sgm]
      · intro j h1 h2
        simp [sgm, nth, h2]
    have hst : StabP HEv.at_ L (sgm g4 0 L.length) := by
      refine ⟨by simp [sgm], fun c => ?_, ?_⟩
      · have h := hS4.2 c
        rw [hLg] at h
        exact h
      · rw [List.pairwise_iff_getElem]
        intro i j hi hj hij
        simp only [sgm, List.length_map, List.length_range'] at hi hj
        simp [sgm]
        exact hT4 i j (Nat.zero_le _) (by omega) (by omega)
    have hRl := hst.1
    refine post_retn (end1 hr5 rfl rfl ⟨.slice (some ⟨b, 0, none⟩) L.length cap, sgm g4 0 L.length, rfl, ?_, hst, hr5.keeps.toBelow⟩).1
    exact .inr ⟨by omega, b, 0, cap, u, (0, 0), Nat.le_trans z1 hPb, by rw [hRl], rep_arr_sub hrep5 (by omega) (fun j hj => by
      rw [hrow4 j (by omega)]
      congr 2
      simp [sgm, nth, show j < L.length by omega]), by omega⟩
end Go.Proofs
