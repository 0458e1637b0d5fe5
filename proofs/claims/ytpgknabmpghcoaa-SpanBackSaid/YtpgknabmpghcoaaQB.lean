/- Spans: Take; the document's Take. -/
import Derived.Test.YtpgknabmpghcoaaPQ
import Derived.Test.YtpgknabmpghcoaaPM
namespace Go.Proofs
set_option linter.unusedVariables false
set_option linter.unusedSimpArgs false
open Go Go.SX Go.RowKit

/-- A span that is taken from an owner. -/
def freeS (o : Int) (s : Spn) : Spn := if s.ow = o then { s with ow := -1, ep := 0 } else s
def ownS (o : Int) (s : Spn) : Bool := decide (s.ow = o)
def TakeOK (L : List Spn) (o : Int) : Prop := ChkP L ∧ 0 ≤ o ∧ o < 8
instance (L : List Spn) (o : Int) : Decidable (TakeOK L o) := by unfold TakeOK; infer_instance
def takeE (L : List Spn) (o : Int) : Int := if TakeOK L o then 0 else 1
def takeL (L : List Spn) (o : Int) : List Spn := if TakeOK L o then joinS (L.map (freeS o)) else []
def takeW (L : List Spn) (o : Int) : List Spn := if TakeOK L o then L.filter (ownS o) else []
def TakeR (w : World) (L : List Spn) (o : Int) (ev : Ending) (w' : World) : Prop :=
  ∃ v1 v2, ev = .returned (den (.tu [.v v1, .v v2, .v (.int .i64 (takeE L o))])) ∧ RdP (fun x => w.heap.size ≤ x) w' v1 (takeL L o) ∧ RdP (fun x => w.heap.size ≤ x) w' v2 (takeW L o) ∧ Below w.heap.size w w'

theorem filter_take {p : Spn → Bool} {L : List Spn} {k : Nat} {x : Spn} (h : k < L.length) (hx : nth spn0 L k = x) : (L.take (k + 1)).filter p = (L.take k).filter p ++ (if p x then [x] else []) := by
  rw [take_nth (d := spn0) h, hx, List.filter_append]
  congr 1
  by_cases hp : p x <;> simp [hp]

def TkLoop (ws : World) (v : Value) (L : List Spn) (o : Int) (bo N cap u : Nat) (m : Nat) (a : Act) (w' : World) : Prop :=
  ∃ (k : Nat) (vw : Value) (row : Nat → List SV), m = L.length - k ∧ k ≤ L.length ∧ OwP (fun x => ws.heap.size ≤ x) w' vw ((L.take k).filter (ownS o)) ∧ (∀ j, j < L.length → row j = spnC (nth spn0 ((L.take k).map (freeS o) ++ L.drop k) j)) ∧
    RepX ⟨ws, ws.heap.size, [bo]⟩ ⟨[(26, 0, .v (.int .i64 k)), (25, 0, .v (.int .i64 L.length)), (24, 0, .v v), (1, 0, .v (.int .i64 o)), (8, 0, .sl 0 bo 0 0 L.length cap 4), (7, 0, .v vw), (4, 0, .v (.slice none 0 0)), (5, 0, .v (.slice none 0 0)), (6, 0, .v (.int .i64 0))], [(bo, true, .arr 0 N row 4 u (0, 0))], 0, 0, 51, [], [], []⟩ a w'

set_option maxRecDepth 100000 in
set_option maxHeartbeats 16000000 in
/-- Take. -/
theorem Take_ok {P : Nat → Prop} (w : World) (v : Value) (L : List Spn) (o : Int) (hL : RdP P w v L) (hn : L.length ≤ 100000) : Calls Try.prog 17 (denL [.v v, .v (.int .i64 o)]).toArray w (TakeR w L o) := by
  obtain ⟨ad, cp, rfl⟩ := hL.slice
  refine enter (F := frame0 w) Try.func17 rfl [.v (.slice ad L.length cp), .v (.int .i64 o)] [] (by simp [Try.f17]) trivial (keeps0 w) fun a hr => ?_
  refine seg cfg17_ok mixed PanicFree.body 1000 [] [] hr (by first | trivial | exact HpRep.nil | assumption) (by kernel_rfl) fun s_ hs_ => ?_
  simp (maxSteps := 10000000) [SX.vc, SX.stop, SX.contS, SX.contB, SX.contW, SX.contR, SX.contD, SX.sxStep, SX.stepPure, SX.stepNew, SX.stepStore, SX.stepKeep, SX.guardIx, SX.evOp, SX.opd, SX.opds, SX.optOpd, SX.look, SX.putS, SX.gobs, SX.AllP, SX.leave, SX.lookC, SX.lookB, SX.lookT, SX.lookN, SX.findK, SX.evBuiltin, SX.ints, SX.foldI, SX.evBin, SX.evInt, SX.evStr, SX.evEq, SX.arith, SX.evLoad, SX.shapeUp, SX.evFieldAddr, SX.evField, SX.evIndexAddr, SX.evIndex, SX.evFill, SX.evBuild, SX.szs, SX.cellsV, SX.evNew, SX.evStore, SX.spliceL, SX.SV.cells, SX.evConv, SX.evSlice, SX.bnd, SX.evNil, SX.evUn, SX.evPick, SX.pickOpd, SX.popTo, SX.cnd, SX.env0, SX.TD.isAgg, SX.TD.isIface, SX.tails, SX.NotAgg, SX.evLookup, SX.evConvH, SX.evPtrEq, SX.isCells, SX.thaw, SX.frz, SX.fixB, SX.rootIx, SX.Froz, SX.frzStep, SX.fork, Go.Value.cells, Go.undef, cfg17, Try.f17]
  refine ⟨by (unfold SX.Ob; first | trivial | omega | ((try simp only [SX.inK]); (try simp [SX.den, SX.IsU8, SX.AllP, *]); (try omega))), ?_⟩
  intro a1 w1 hr1 _
  refine post_call 30 [.v (.slice ad L.length cp)] hr1 (by first | exact wanted_none rfl | exact wanted_zero (hr1.env.same rfl rfl rfl rfl) rfl (by simp)) rfl (callable 30 Try.func30) (check_ok w1 _ L (hL.below hr1.keeps.toBelow) (by omega)) ?_
  rintro e2 w2 ⟨rfl, hb2⟩
  refine ⟨_, rfl, ?_⟩
  have h2 := hr1.ret hb2 12 (.v (.int .i64 (chkP L))) rfl _ (hr1.all.below hb2) (by simp) rfl
  have bad : ¬ TakeOK L o → takeE L o = 1 ∧ takeL L o = [] ∧ takeW L o = [] := fun h => ⟨if_neg h, if_neg h, if_neg h⟩
  by_cases hC : ChkP L
  rotate_left
  · have hc : chkP L = 1 := if_neg hC
    obtain ⟨hE, hG, hX⟩ := bad fun h => hC h.1
    refine seg cfg17_ok mixed PanicFree.body 1000 [true] [(14, true), (18, true)] h2 (by first | trivial | exact HpRep.nil | assumption) (by kernel_rfl) fun s_ hs_ => ?_
    simp (maxSteps := 10000000) [SX.vc, SX.stop, SX.contS, SX.contB, SX.contW, SX.contR, SX.contD, SX.sxStep, SX.stepPure, SX.stepNew, SX.stepStore, SX.stepKeep, SX.guardIx, SX.evOp, SX.opd, SX.opds, SX.optOpd, SX.look, SX.putS, SX.gobs, SX.AllP, SX.leave, SX.lookC, SX.lookB, SX.lookT, SX.lookN, SX.findK, SX.evBuiltin, SX.ints, SX.foldI, SX.evBin, SX.evInt, SX.evStr, SX.evEq, SX.arith, SX.evLoad, SX.shapeUp, SX.evFieldAddr, SX.evField, SX.evIndexAddr, SX.evIndex, SX.evFill, SX.evBuild, SX.szs, SX.cellsV, SX.evNew, SX.evStore, SX.spliceL, SX.SV.cells, SX.evConv, SX.evSlice, SX.bnd, SX.evNil, SX.evUn, SX.evPick, SX.pickOpd, SX.popTo, SX.cnd, SX.env0, SX.TD.isAgg, SX.TD.isIface, SX.tails, SX.NotAgg, SX.evLookup, SX.evConvH, SX.evPtrEq, SX.isCells, SX.thaw, SX.frz, SX.fixB, SX.rootIx, SX.Froz, SX.frzStep, SX.fork, Go.Value.cells, Go.undef, cfg17, hc]
    refine ⟨by (unfold SX.Ob; first | trivial | omega | ((try simp only [SX.inK]); (try simp [SX.den, SX.IsU8, SX.AllP, *]); (try omega))), ?_⟩
    intro a3 w3 hr3 _
    exact post_retn (end3 hr3 rfl rfl rfl rfl ⟨.slice none 0 0, .slice none 0 0, by rw [hE]; simp [den, denL], by rw [hG]; exact OwS.nil.rd, by rw [hX]; exact OwS.nil.rd, hr3.keeps.toBelow⟩).1
  have hc : chkP L = 0 := if_pos hC
  by_cases ho0 : o < 0
  · obtain ⟨hE, hG, hX⟩ := bad fun h => by have := h.2.1; omega
    refine seg cfg17_ok mixed PanicFree.body 1000 [true] [(14, false), (18, true)] h2 (by first | trivial | exact HpRep.nil | assumption) (by kernel_rfl) fun s_ hs_ => ?_
    simp (maxSteps := 10000000) [SX.vc, SX.stop, SX.contS, SX.contB, SX.contW, SX.contR, SX.contD, SX.sxStep, SX.stepPure, SX.stepNew, SX.stepStore, SX.stepKeep, SX.guardIx, SX.evOp, SX.opd, SX.opds, SX.optOpd, SX.look, SX.putS, SX.gobs, SX.AllP, SX.leave, SX.lookC, SX.lookB, SX.lookT, SX.lookN, SX.findK, SX.evBuiltin, SX.ints, SX.foldI, SX.evBin, SX.evInt, SX.evStr, SX.evEq, SX.arith, SX.evLoad, SX.shapeUp, SX.evFieldAddr, SX.evField, SX.evIndexAddr, SX.evIndex, SX.evFill, SX.evBuild, SX.szs, SX.cellsV, SX.evNew, SX.evStore, SX.spliceL, SX.SV.cells, SX.evConv, SX.evSlice, SX.bnd, SX.evNil, SX.evUn, SX.evPick, SX.pickOpd, SX.popTo, SX.cnd, SX.env0, SX.TD.isAgg, SX.TD.isIface, SX.tails, SX.NotAgg, SX.evLookup, SX.evConvH, SX.evPtrEq, SX.isCells, SX.thaw, SX.frz, SX.fixB, SX.rootIx, SX.Froz, SX.frzStep, SX.fork, Go.Value.cells, Go.undef, cfg17, hc, ho0]
    refine ⟨by (unfold SX.Ob; first | trivial | omega | ((try simp only [SX.inK]); (try simp [SX.den, SX.IsU8, SX.AllP, *]); (try omega))), ?_⟩
    intro a3 w3 hr3 _
    exact post_retn (end3 hr3 rfl rfl rfl rfl ⟨.slice none 0 0, .slice none 0 0, by rw [hE]; simp [den, denL], by rw [hG]; exact OwS.nil.rd, by rw [hX]; exact OwS.nil.rd, hr3.keeps.toBelow⟩).1
  by_cases ho8 : 8 ≤ o
  · obtain ⟨hE, hG, hX⟩ := bad fun h => by have := h.2.2; omega
    refine seg cfg17_ok mixed PanicFree.body 1000 [true] [(14, false), (18, false)] h2 (by first | trivial | exact HpRep.nil | assumption) (by kernel_rfl) fun s_ hs_ => ?_
    simp (maxSteps := 10000000) [SX.vc, SX.stop, SX.contS, SX.contB, SX.contW, SX.contR, SX.contD, SX.sxStep, SX.stepPure, SX.stepNew, SX.stepStore, SX.stepKeep, SX.guardIx, SX.evOp, SX.opd, SX.opds, SX.optOpd, SX.look, SX.putS, SX.gobs, SX.AllP, SX.leave, SX.lookC, SX.lookB, SX.lookT, SX.lookN, SX.findK, SX.evBuiltin, SX.ints, SX.foldI, SX.evBin, SX.evInt, SX.evStr, SX.evEq, SX.arith, SX.evLoad, SX.shapeUp, SX.evFieldAddr, SX.evField, SX.evIndexAddr, SX.evIndex, SX.evFill, SX.evBuild, SX.szs, SX.cellsV, SX.evNew, SX.evStore, SX.spliceL, SX.SV.cells, SX.evConv, SX.evSlice, SX.bnd, SX.evNil, SX.evUn, SX.evPick, SX.pickOpd, SX.popTo, SX.cnd, SX.env0, SX.TD.isAgg, SX.TD.isIface, SX.tails, SX.NotAgg, SX.evLookup, SX.evConvH, SX.evPtrEq, SX.isCells, SX.thaw, SX.frz, SX.fixB, SX.rootIx, SX.Froz, SX.frzStep, SX.fork, Go.Value.cells, Go.undef, cfg17, hc, ho0, ho8]
    refine ⟨by (unfold SX.Ob; first | trivial | omega | ((try simp only [SX.inK]); (try simp [SX.den, SX.IsU8, SX.AllP, *]); (try omega))), ?_⟩
    intro a3 w3 hr3 _
    exact post_retn (end3 hr3 rfl rfl rfl rfl ⟨.slice none 0 0, .slice none 0 0, by rw [hE]; simp [den, denL], by rw [hG]; exact OwS.nil.rd, by rw [hX]; exact OwS.nil.rd, hr3.keeps.toBelow⟩).1
  have hT : TakeOK L o := ⟨hC, by omega, by omega⟩
  have hE : takeE L o = 0 := if_pos hT
  have hG : takeL L o = joinS (L.map (freeS o)) := if_pos hT
  have hX : takeW L o = L.filter (ownS o) := if_pos hT
  refine seg cfg17_ok mixed PanicFree.body 1000 [false] [(14, false), (18, false)] h2 (by first | trivial | exact HpRep.nil | assumption) (by kernel_rfl) fun s_ hs_ => ?_
  simp (maxSteps := 10000000) [SX.vc, SX.stop, SX.contS, SX.contB, SX.contW, SX.contR, SX.contD, SX.sxStep, SX.stepPure, SX.stepNew, SX.stepStore, SX.stepKeep, SX.guardIx, SX.evOp, SX.opd, SX.opds, SX.optOpd, SX.look, SX.putS, SX.gobs, SX.AllP, SX.leave, SX.lookC, SX.lookB, SX.lookT, SX.lookN, SX.findK, SX.evBuiltin, SX.ints, SX.foldI, SX.evBin, SX.evInt, SX.evStr, SX.evEq, SX.arith, SX.evLoad, SX.shapeUp, SX.evFieldAddr, SX.evField, SX.evIndexAddr, SX.evIndex, SX.evFill, SX.evBuild, SX.szs, SX.cellsV, SX.evNew, SX.evStore, SX.spliceL, SX.SV.cells, SX.evConv, SX.evSlice, SX.bnd, SX.evNil, SX.evUn, SX.evPick, SX.pickOpd, SX.popTo, SX.cnd, SX.env0, SX.TD.isAgg, SX.TD.isIface, SX.tails, SX.NotAgg, SX.evLookup, SX.evConvH, SX.evPtrEq, SX.isCells, SX.thaw, SX.frz, SX.fixB, SX.rootIx, SX.Froz, SX.frzStep, SX.fork, Go.Value.cells, Go.undef, cfg17, hc, ho0, ho8]
  refine ⟨by (unfold SX.Ob; first | trivial | omega | ((try simp only [SX.inK]); (try simp [SX.den, SX.IsU8, SX.AllP, *]); (try omega))), ?_⟩
  intro a3 w3 hr3 _
  refine post_call 33 [.v (.slice ad L.length cp)] hr3 (by first | exact wanted_none rfl | exact wanted_zero (hr3.env.same rfl rfl rfl rfl) rfl (by simp)) rfl (callable 33 Try.func33) (clone_ok w3 _ L (hL.below hr3.keeps.toBelow) hC.ne (by omega)) ?_
  rintro e4 w4 ⟨v4, rfl, hO4, hb4⟩
  refine ⟨_, rfl, ?_⟩
  have h4 := hr3.ret hb4 23 (.v v4) rfl _ (hr3.all.below hb4) (by simp) rfl
  obtain ⟨bo, N, cap, u, row0, hPo, rfl, hc0, hc1, hc2, hrep0, hrow0⟩ := hO4.opn hC.ne
  have z3 : w.heap.size ≤ w3.heap.size := hr3.keeps.size
  have h5 := (h4.top 23 (.sl 0 bo 0 0 L.length cap 4) rfl (by simp [den])).see [(bo, true, .arr 0 N row0 4 u (0, 0))] ⟨⟨hrep0, fun _ => .inl (Nat.le_trans z3 hPo), by simp⟩, trivial⟩
  refine seg cfg17_ok mixed PanicFree.body 1000 [] [] h5 (by first | trivial | exact HpRep.nil | assumption) (by kernel_rfl) fun s_ hs_ => ?_
  simp (maxSteps := 10000000) [SX.vc, SX.stop, SX.contS, SX.contB, SX.contW, SX.contR, SX.contD, SX.sxStep, SX.stepPure, SX.stepNew, SX.stepStore, SX.stepKeep, SX.guardIx, SX.evOp, SX.opd, SX.opds, SX.optOpd, SX.look, SX.putS, SX.gobs, SX.AllP, SX.leave, SX.lookC, SX.lookB, SX.lookT, SX.lookN, SX.findK, SX.evBuiltin, SX.ints, SX.foldI, SX.evBin, SX.evInt, SX.evStr, SX.evEq, SX.arith, SX.evLoad, SX.shapeUp, SX.evFieldAddr, SX.evField, SX.evIndexAddr, SX.evIndex, SX.evFill, SX.evBuild, SX.szs, SX.cellsV, SX.evNew, SX.evStore, SX.spliceL, SX.SV.cells, SX.evConv, SX.evSlice, SX.bnd, SX.evNil, SX.evUn, SX.evPick, SX.pickOpd, SX.popTo, SX.cnd, SX.env0, SX.TD.isAgg, SX.TD.isIface, SX.tails, SX.NotAgg, SX.evLookup, SX.evConvH, SX.evPtrEq, SX.isCells, SX.thaw, SX.frz, SX.fixB, SX.rootIx, SX.Froz, SX.frzStep, SX.fork, Go.Value.cells, Go.undef, cfg17]
  refine ⟨by (unfold SX.Ob; first | trivial | omega | ((try simp only [SX.inK]); (try simp [SX.den, SX.IsU8, SX.AllP, *]); (try omega))), ?_⟩
  intro a6 w6 hr6 _
  have hbo : bo < w6.heap.size := SO.rep_lt hr6.all.1.1
  have hLw : RdP (fun x => x < w.heap.size) w6 (.slice ad L.length cp) L := (hL.mono (P' := fun x => x < w.heap.size) fun x h _ => h).below hr6.keeps.toBelow
  refine post_loop (TkLoop w6 (.slice ad L.length cp) L o bo N cap u) L.length ⟨0, .slice none 0 0, row0, rfl, by omega, OwS.nil, fun j hj => by simpa using hrow0 j hj, hr6.rebase.re (by simp [envTo, SX.look]) ⟨⟨hr6.all.1.1, fun _ => .inr (by simp [frameAt, mutB]), by simp⟩, trivial⟩ rfl rfl⟩ ?_
  rintro m a7 w7 ⟨k, vw, row, rfl, hk, hO, hrow, hr7⟩
  have z7 : w6.heap.size ≤ w7.heap.size := hr7.keeps.size
  have z6 : w.heap.size ≤ w6.heap.size := hr6.keeps.size
  by_cases hlt : k < L.length
  · obtain ⟨b, o0, cap', u', fz, hP, hv, hrep⟩ := hLw.opn hlt
    cases hv
    have hrep2 := KeepsTo.same (M := [bo]) hr7.keeps hrep (by simp; omega)
    obtain ⟨x, hx⟩ : ∃ x, nth spn0 L k = x := ⟨_, rfl⟩
    have hrk : row k = [.v (.int .i64 x.fr), .v (.int .i64 x.to), .v (.int .i64 x.ow), .v (.int .i64 x.ep)] := by rw [hrow k hlt, nth_mix hk hlt, if_neg (by omega), hx]; rfl
    have hkN : k < N := by omega
    have hft := filter_take (p := ownS o) hlt hx
    have hA7 := hr7.all.1
    have h8 := (hr7.top 24 (.sl 1 b o0 0 L.length cp 4) rfl (by simp [den])).see [(bo, true, .arr 0 N row 4 u (0, 0)), (b, false, .arr o0 L.length (fun j => spnC (nth spn0 L j)) 4 u' fz)] ⟨⟨hA7.1, hA7.2.1, by simp; omega⟩, HpAll.one hrep2⟩
    have hstep : ∀ j, j < L.length → j ≠ k → nth spn0 ((L.take (k + 1)).map (freeS o) ++ L.drop (k + 1)) j = nth spn0 ((L.take k).map (freeS o) ++ L.drop k) j := fun j hj hjk => by
      rw [nth_mix (by omega) hj, nth_mix hk hj]
      by_cases hjl : j < k
      · rw [if_pos (by omega), if_pos hjl]
      · rw [if_neg (by omega), if_neg hjl]
    have hself : nth spn0 ((L.take (k + 1)).map (freeS o) ++ L.drop (k + 1)) k = freeS o x := by rw [nth_mix (by omega) hlt, if_pos (by omega), hx]
    by_cases how : x.ow = o
    · have hfx : freeS o x = { x with ow := -1, ep := 0 } := if_pos how
      rw [show ownS o x = true by simp [ownS, how], if_pos rfl] at hft
      refine seg cfg17_ok mixed PanicFree.body 1000 [true, true] [] h8.rebase (by first | trivial | exact HpRep.nil | assumption) (by kernel_rfl) fun s_ hs_ => ?_
      simp (maxSteps := 10000000) [SX.vc, SX.stop, SX.contS, SX.contB, SX.contW, SX.contR, SX.contD, SX.sxStep, SX.stepPure, SX.stepNew, SX.stepStore, SX.stepKeep, SX.guardIx, SX.evOp, SX.opd, SX.opds, SX.optOpd, SX.look, SX.putS, SX.gobs, SX.AllP, SX.leave, SX.lookC, SX.lookB, SX.lookT, SX.lookN, SX.findK, SX.evBuiltin, SX.ints, SX.foldI, SX.evBin, SX.evInt, SX.evStr, SX.evEq, SX.arith, SX.evLoad, SX.shapeUp, SX.evFieldAddr, SX.evField, SX.evIndexAddr, SX.evIndex, SX.evFill, SX.evBuild, SX.szs, SX.cellsV, SX.evNew, SX.evStore, SX.spliceL, SX.SV.cells, SX.evConv, SX.evSlice, SX.bnd, SX.evNil, SX.evUn, SX.evPick, SX.pickOpd, SX.popTo, SX.cnd, SX.env0, SX.TD.isAgg, SX.TD.isIface, SX.tails, SX.NotAgg, SX.evLookup, SX.evConvH, SX.evPtrEq, SX.isCells, SX.thaw, SX.frz, SX.fixB, SX.rootIx, SX.Froz, SX.frzStep, SX.fork, Go.Value.cells, Go.undef, cfg17, spnC, hx, how]
      refine ⟨by (unfold SX.Ob; first | trivial | omega | ((try simp only [SX.inK]); (try simp [SX.den, SX.IsU8, SX.AllP, *]); (try omega))), ?_⟩
      intro a9 w9 hr9' _
      have hr9 := h8.unbase hr9'
      have z9 : w6.heap.size ≤ w9.heap.size := hr9.keeps.size
      have hO9 := hO.keep hr9'.keeps (by simp [frameAt, mutB]; omega)
      have hA9 := hr9.all.1
      have hwl : (List.filter (ownS o) (List.take k L)).length ≤ 100000 := Nat.le_trans (List.length_filter_le _ _) (by simp; omega)
      refine post_app (C := cfg17) cfg17_ok hr9 (by first | exact wanted_none rfl | exact wanted_zero (hr9.env.same rfl rfl rfl rfl) rfl (by simp)) rfl (by simp) rfl rfl rfl rfl rfl rfl rfl rfl rfl (by decide) (flatS _) (by (try simp only [List.length_append, List.length_cons, List.length_nil, List.length_map, List.length_take]); omega) (fun x hx => Nat.le_trans z9 hx) hO9 (RdS.lit (x := x) hr9.all.2.2.2.1.1 (by simp [spnC, how])) [(bo, true, .arr 0 N row 4 u (0, 0))] (fun w' B hk hB => ⟨⟨KeepsTo.same hk hA9.1 (fun h => absurd (hB _ h).1 (Nat.not_le.2 hbo)), hA9.2.1, by simp⟩, trivial⟩) (fun x hx => .inl hx) fun V10 a10 w10 B10 hO10 hB10 hk10 hr10 => ?_
      refine seg cfg17_ok mixed PanicFree.body 1000 [] [] hr10.rebase (by first | trivial | exact HpRep.nil | assumption) (by kernel_rfl) fun s_ hs_ => ?_
      simp (maxSteps := 10000000) [SX.vc, SX.stop, SX.contS, SX.contB, SX.contW, SX.contR, SX.contD, SX.sxStep, SX.stepPure, SX.stepNew, SX.stepStore, SX.stepKeep, SX.guardIx, SX.evOp, SX.opd, SX.opds, SX.optOpd, SX.look, SX.putS, SX.gobs, SX.AllP, SX.leave, SX.lookC, SX.lookB, SX.lookT, SX.lookN, SX.findK, SX.evBuiltin, SX.ints, SX.foldI, SX.evBin, SX.evInt, SX.evStr, SX.evEq, SX.arith, SX.evLoad, SX.shapeUp, SX.evFieldAddr, SX.evField, SX.evIndexAddr, SX.evIndex, SX.evFill, SX.evBuild, SX.szs, SX.cellsV, SX.evNew, SX.evStore, SX.spliceL, SX.SV.cells, SX.evConv, SX.evSlice, SX.bnd, SX.evNil, SX.evUn, SX.evPick, SX.pickOpd, SX.popTo, SX.cnd, SX.env0, SX.TD.isAgg, SX.TD.isIface, SX.tails, SX.NotAgg, SX.evLookup, SX.evConvH, SX.evPtrEq, SX.isCells, SX.thaw, SX.frz, SX.fixB, SX.rootIx, SX.Froz, SX.frzStep, SX.fork, Go.Value.cells, Go.undef, cfg17, hrk]
      refine ⟨by (unfold SX.Ob; first | trivial | omega | ((try simp only [SX.inK]); (try simp [SX.den, SX.IsU8, SX.AllP, *]); (try omega))), ?_⟩
      intro a11 w11 hr11' _
      have hr11 := hr10.unbase hr11'
      exact post_rnd (L.length - (k + 1)) (by omega) ⟨k + 1, V10, _, rfl, hlt, by rw [hft]; exact hO10.keep hr11'.keeps (by simp [frameAt, mutB]; omega), fun j hj => (by
        by_cases hjk : j = k
        · subst hjk
          rw [hself, hfx]
          simp [setRow_two, setRow_same, spnC]
        · rw [hstep j hj hjk, ← hrow j hj, setRow_two]
          unfold setRow
          rw [if_neg hjk]), hr11.re (by simp [envTo, SX.look, den]) hr11.all rfl rfl⟩
    · have hfx : freeS o x = x := if_neg how
      rw [show ownS o x = false by simp [ownS, how]] at hft
      simp only [Bool.false_eq_true, if_false, List.append_nil] at hft
      refine seg cfg17_ok mixed PanicFree.body 1000 [true, false] [] h8.rebase (by first | trivial | exact HpRep.nil | assumption) (by kernel_rfl) fun s_ hs_ => ?_
      simp (maxSteps := 10000000) [SX.vc, SX.stop, SX.contS, SX.contB, SX.contW, SX.contR, SX.contD, SX.sxStep, SX.stepPure, SX.stepNew, SX.stepStore, SX.stepKeep, SX.guardIx, SX.evOp, SX.opd, SX.opds, SX.optOpd, SX.look, SX.putS, SX.gobs, SX.AllP, SX.leave, SX.lookC, SX.lookB, SX.lookT, SX.lookN, SX.findK, SX.evBuiltin, SX.ints, SX.foldI, SX.evBin, SX.evInt, SX.evStr, SX.evEq, SX.arith, SX.evLoad, SX.shapeUp, SX.evFieldAddr, SX.evField, SX.evIndexAddr, SX.evIndex, SX.evFill, SX.evBuild, SX.szs, SX.cellsV, SX.evNew, SX.evStore, SX.spliceL, SX.SV.cells, SX.evConv, SX.evSlice, SX.bnd, SX.evNil, SX.evUn, SX.evPick, SX.pickOpd, SX.popTo, SX.cnd, SX.env0, SX.TD.isAgg, SX.TD.isIface, SX.tails, SX.NotAgg, SX.evLookup, SX.evConvH, SX.evPtrEq, SX.isCells, SX.thaw, SX.frz, SX.fixB, SX.rootIx, SX.Froz, SX.frzStep, SX.fork, Go.Value.cells, Go.undef, cfg17, spnC, hx, how]
      refine ⟨by (unfold SX.Ob; first | trivial | omega | ((try simp only [SX.inK]); (try simp [SX.den, SX.IsU8, SX.AllP, *]); (try omega))), ?_⟩
      intro a9 w9 hr9' _
      have hr9 := h8.unbase hr9'
      exact post_rnd (L.length - (k + 1)) (by omega) ⟨k + 1, vw, row, rfl, hlt, by rw [hft]; exact hO.keep hr9'.keeps (by simp [frameAt, mutB]; omega), fun j hj => (by
        by_cases hjk : j = k
        · subst hjk
          rw [hself, hfx, hrk]; rfl
        · rw [hstep j hj hjk, hrow j hj]), hr9.re (by simp [envTo, SX.look, den]) (hr9.all.take 1) rfl rfl⟩
  · obtain rfl : k = L.length := by omega
    simp only [List.take_length, List.drop_length, List.append_nil] at hO hrow
    have hlm : (L.map (freeS o)).length = L.length := by simp
    refine seg cfg17_ok mixed PanicFree.body 1000 [false] [] hr7.rebase (by first | trivial | exact HpRep.nil | assumption) (by kernel_rfl) fun s_ hs_ => ?_
    simp (maxSteps := 10000000) [SX.vc, SX.stop, SX.contS, SX.contB, SX.contW, SX.contR, SX.contD, SX.sxStep, SX.stepPure, SX.stepNew, SX.stepStore, SX.stepKeep, SX.guardIx, SX.evOp, SX.opd, SX.opds, SX.optOpd, SX.look, SX.putS, SX.gobs, SX.AllP, SX.leave, SX.lookC, SX.lookB, SX.lookT, SX.lookN, SX.findK, SX.evBuiltin, SX.ints, SX.foldI, SX.evBin, SX.evInt, SX.evStr, SX.evEq, SX.arith, SX.evLoad, SX.shapeUp, SX.evFieldAddr, SX.evField, SX.evIndexAddr, SX.evIndex, SX.evFill, SX.evBuild, SX.szs, SX.cellsV, SX.evNew, SX.evStore, SX.spliceL, SX.SV.cells, SX.evConv, SX.evSlice, SX.bnd, SX.evNil, SX.evUn, SX.evPick, SX.pickOpd, SX.popTo, SX.cnd, SX.env0, SX.TD.isAgg, SX.TD.isIface, SX.tails, SX.NotAgg, SX.evLookup, SX.evConvH, SX.evPtrEq, SX.isCells, SX.thaw, SX.frz, SX.fixB, SX.rootIx, SX.Froz, SX.frzStep, SX.fork, Go.Value.cells, Go.undef, cfg17]
    refine ⟨by (unfold SX.Ob; first | trivial | omega | ((try simp only [SX.inK]); (try simp [SX.den, SX.IsU8, SX.AllP, *]); (try omega))), ?_⟩
    intro a9 w9 hr9' _
    have hr9'' := hr7.unbase hr9'
    have hO9 := hO.keep hr9'.keeps (by simp [frameAt, mutB]; omega)
    have hr9 := hr6.unbase hr9''
    have hM9 : RdP (fun _ => True) w9 (.slice (some ⟨bo, 0, none⟩) L.length cap) (L.map (freeS o)) := .inr ⟨by rw [hlm]; exact hC.ne, bo, 0, cap, u, (0, 0), trivial, by rw [hlm], rep_arr_sub hr9.all.1.1 (by rw [hlm]; omega) (fun j hj => by rw [hrow j (by omega)]), by rw [hlm]; omega⟩
    have z9 : w6.heap.size ≤ w9.heap.size := Nat.le_trans z7 hr9'.keeps.size
    refine post_call 28 [.sl 0 bo 0 0 L.length cap 4] hr9 (by first | exact wanted_none rfl | exact wanted_zero (hr9.env.same rfl rfl rfl rfl) rfl (by simp)) rfl (callable 28 Try.func28) (join_ok w9 _ _ hM9 (by omega)) ?_
    rintro e10 w10 ⟨v10, rfl, hO10, hb10⟩
    refine ⟨_, rfl, ?_⟩
    have h10' := hr9.ret hb10 49 (.v v10) rfl _ (hr9.all.below hb10) (by simp) rfl
    have h10 := h10'.see [] trivial
    have hW10 := hO9.below hb10
    refine seg cfg17_ok mixed PanicFree.body 1000 [] [] h10.rebase (by first | trivial | exact HpRep.nil | assumption) (by kernel_rfl) fun s_ hs_ => ?_
    simp (maxSteps := 10000000) [SX.vc, SX.stop, SX.contS, SX.contB, SX.contW, SX.contR, SX.contD, SX.sxStep, SX.stepPure, SX.stepNew, SX.stepStore, SX.stepKeep, SX.guardIx, SX.evOp, SX.opd, SX.opds, SX.optOpd, SX.look, SX.putS, SX.gobs, SX.AllP, SX.leave, SX.lookC, SX.lookB, SX.lookT, SX.lookN, SX.findK, SX.evBuiltin, SX.ints, SX.foldI, SX.evBin, SX.evInt, SX.evStr, SX.evEq, SX.arith, SX.evLoad, SX.shapeUp, SX.evFieldAddr, SX.evField, SX.evIndexAddr, SX.evIndex, SX.evFill, SX.evBuild, SX.szs, SX.cellsV, SX.evNew, SX.evStore, SX.spliceL, SX.SV.cells, SX.evConv, SX.evSlice, SX.bnd, SX.evNil, SX.evUn, SX.evPick, SX.pickOpd, SX.popTo, SX.cnd, SX.env0, SX.TD.isAgg, SX.TD.isIface, SX.tails, SX.NotAgg, SX.evLookup, SX.evConvH, SX.evPtrEq, SX.isCells, SX.thaw, SX.frz, SX.fixB, SX.rootIx, SX.Froz, SX.frzStep, SX.fork, Go.Value.cells, Go.undef, cfg17]
    refine ⟨by (unfold SX.Ob; first | trivial | omega | ((try simp only [SX.inK]); (try simp [SX.den, SX.IsU8, SX.AllP, *]); (try omega))), ?_⟩
    intro a11 w11 hr11' _
    have hr11 := h10.unbase hr11'
    exact post_retn (end3 hr11 rfl rfl rfl rfl ⟨v10, vw, by rw [hE]; simp [den, denL], by rw [hG]; exact (hO10.rd.mono (P' := fun x => w.heap.size ≤ x) fun x _ h => by omega).keep hr11'.keeps (by simp [frameAt, mutB]), by rw [hX]; exact (hW10.rd.mono (P' := fun x => w.heap.size ≤ x) fun x _ h => by omega).keep hr11'.keeps (by simp [frameAt, mutB]), hr11.keeps.toBelow⟩).1

def RtLoop (w : World) (v : Value) (L : List Spn) (o : Int) (m : Nat) (a : Act) (w' : World) : Prop :=
  ∃ (k : Nat) (vo vw : Value) (PA PB : Nat → Prop), m = L.length - k ∧ k ≤ L.length ∧ OwP PA w' vo ((L.take k).map (freeS o)) ∧ OwP PB w' vw ((L.take k).filter (ownS o)) ∧ (∀ x, PA x → ¬ PB x) ∧ (∀ x, PA x → w.heap.size ≤ x ∧ x < w'.heap.size) ∧ (∀ x, PB x → w.heap.size ≤ x ∧ x < w'.heap.size) ∧
    RepX (frame0 w) ⟨[(24, 0, .v (.int .i64 k)), (23, 0, .v (.int .i64 L.length)), (22, 0, .v v), (1, 0, .v (.int .i64 o)), (7, 0, .v vo), (8, 0, .v vw), (4, 0, .v (.slice none 0 0)), (5, 0, .v (.slice none 0 0)), (6, 0, .v (.int .i64 0))], [], 0, 0, 50, [], [], []⟩ a w'

set_option maxRecDepth 100000 in
set_option maxHeartbeats 16000000 in
/-- The document's Take. -/
theorem rTake_ok {P : Nat → Prop} (w : World) (v : Value) (L : List Spn) (o : Int) (hL : RdP P w v L) (hn : L.length ≤ 100000) (hFC : ChkP L → ChkP (L.map (freeS o))) : Calls Try.prog 22 (denL [.v v, .v (.int .i64 o)]).toArray w (TakeR w L o) := by
  obtain ⟨ad, cp, rfl⟩ := hL.slice
  refine enter (F := frame0 w) Try.func22 rfl [.v (.slice ad L.length cp), .v (.int .i64 o)] [] (by simp [Try.f22]) trivial (keeps0 w) fun a hr => ?_
  refine seg cfg22_ok mixed PanicFree.body 1000 [] [] hr (by first | trivial | exact HpRep.nil | assumption) (by kernel_rfl) fun s_ hs_ => ?_
  simp (maxSteps := 10000000) [SX.vc, SX.stop, SX.contS, SX.contB, SX.contW, SX.contR, SX.contD, SX.sxStep, SX.stepPure, SX.stepNew, SX.stepStore, SX.stepKeep, SX.guardIx, SX.evOp, SX.opd, SX.opds, SX.optOpd, SX.look, SX.putS, SX.gobs, SX.AllP, SX.leave, SX.lookC, SX.lookB, SX.lookT, SX.lookN, SX.findK, SX.evBuiltin, SX.ints, SX.foldI, SX.evBin, SX.evInt, SX.evStr, SX.evEq, SX.arith, SX.evLoad, SX.shapeUp, SX.evFieldAddr, SX.evField, SX.evIndexAddr, SX.evIndex, SX.evFill, SX.evBuild, SX.szs, SX.cellsV, SX.evNew, SX.evStore, SX.spliceL, SX.SV.cells, SX.evConv, SX.evSlice, SX.bnd, SX.evNil, SX.evUn, SX.evPick, SX.pickOpd, SX.popTo, SX.cnd, SX.env0, SX.TD.isAgg, SX.TD.isIface, SX.tails, SX.NotAgg, SX.evLookup, SX.evConvH, SX.evPtrEq, SX.isCells, SX.thaw, SX.frz, SX.fixB, SX.rootIx, SX.Froz, SX.frzStep, SX.fork, Go.Value.cells, Go.undef, cfg22, Try.f22]
  refine ⟨by (unfold SX.Ob; first | trivial | omega | ((try simp only [SX.inK]); (try simp [SX.den, SX.IsU8, SX.AllP, *]); (try omega))), ?_⟩
  intro a1 w1 hr1 _
  refine post_call 11 [.v (.slice ad L.length cp)] hr1 (by first | exact wanted_none rfl | exact wanted_zero (hr1.env.same rfl rfl rfl rfl) rfl (by simp)) rfl (callable 11 Try.func11) (rcheck_ok w1 _ L (hL.below hr1.keeps.toBelow) (by omega)) ?_
  rintro e2 w2 ⟨rfl, hb2⟩
  refine ⟨_, rfl, ?_⟩
  have h2 := hr1.ret hb2 12 (.v (.int .i64 (chkP L))) rfl _ (hr1.all.below hb2) (by simp) rfl
  have bad : ¬ TakeOK L o → takeE L o = 1 ∧ takeL L o = [] ∧ takeW L o = [] := fun h => ⟨if_neg h, if_neg h, if_neg h⟩
  by_cases hC : ChkP L
  rotate_left
  · have hc : chkP L = 1 := if_neg hC
    obtain ⟨hE, hG, hX⟩ := bad fun h => hC h.1
    refine seg cfg22_ok mixed PanicFree.body 1000 [true] [(14, true), (18, true)] h2 (by first | trivial | exact HpRep.nil | assumption) (by kernel_rfl) fun s_ hs_ => ?_
    simp (maxSteps := 10000000) [SX.vc, SX.stop, SX.contS, SX.contB, SX.contW, SX.contR, SX.contD, SX.sxStep, SX.stepPure, SX.stepNew, SX.stepStore, SX.stepKeep, SX.guardIx, SX.evOp, SX.opd, SX.opds, SX.optOpd, SX.look, SX.putS, SX.gobs, SX.AllP, SX.leave, SX.lookC, SX.lookB, SX.lookT, SX.lookN, SX.findK, SX.evBuiltin, SX.ints, SX.foldI, SX.evBin, SX.evInt, SX.evStr, SX.evEq, SX.arith, SX.evLoad, SX.shapeUp, SX.evFieldAddr, SX.evField, SX.evIndexAddr, SX.evIndex, SX.evFill, SX.evBuild, SX.szs, SX.cellsV, SX.evNew, SX.evStore, SX.spliceL, SX.SV.cells, SX.evConv, SX.evSlice, SX.bnd, SX.evNil, SX.evUn, SX.evPick, SX.pickOpd, SX.popTo, SX.cnd, SX.env0, SX.TD.isAgg, SX.TD.isIface, SX.tails, SX.NotAgg, SX.evLookup, SX.evConvH, SX.evPtrEq, SX.isCells, SX.thaw, SX.frz, SX.fixB, SX.rootIx, SX.Froz, SX.frzStep, SX.fork, Go.Value.cells, Go.undef, cfg22, hc]
    refine ⟨by (unfold SX.Ob; first | trivial | omega | ((try simp only [SX.inK]); (try simp [SX.den, SX.IsU8, SX.AllP, *]); (try omega))), ?_⟩
    intro a3 w3 hr3 _
    exact post_retn (end3 hr3 rfl rfl rfl rfl ⟨.slice none 0 0, .slice none 0 0, by rw [hE]; simp [den, denL], by rw [hG]; exact OwS.nil.rd, by rw [hX]; exact OwS.nil.rd, hr3.keeps.toBelow⟩).1
  have hc : chkP L = 0 := if_pos hC
  by_cases ho0 : o < 0
  · obtain ⟨hE, hG, hX⟩ := bad fun h => by have := h.2.1; omega
    refine seg cfg22_ok mixed PanicFree.body 1000 [true] [(14, false), (18, true)] h2 (by first | trivial | exact HpRep.nil | assumption) (by kernel_rfl) fun s_ hs_ => ?_
    simp (maxSteps := 10000000) [SX.vc, SX.stop, SX.contS, SX.contB, SX.contW, SX.contR, SX.contD, SX.sxStep, SX.stepPure, SX.stepNew, SX.stepStore, SX.stepKeep, SX.guardIx, SX.evOp, SX.opd, SX.opds, SX.optOpd, SX.look, SX.putS, SX.gobs, SX.AllP, SX.leave, SX.lookC, SX.lookB, SX.lookT, SX.lookN, SX.findK, SX.evBuiltin, SX.ints, SX.foldI, SX.evBin, SX.evInt, SX.evStr, SX.evEq, SX.arith, SX.evLoad, SX.shapeUp, SX.evFieldAddr, SX.evField, SX.evIndexAddr, SX.evIndex, SX.evFill, SX.evBuild, SX.szs, SX.cellsV, SX.evNew, SX.evStore, SX.spliceL, SX.SV.cells, SX.evConv, SX.evSlice, SX.bnd, SX.evNil, SX.evUn, SX.evPick, SX.pickOpd, SX.popTo, SX.cnd, SX.env0, SX.TD.isAgg, SX.TD.isIface, SX.tails, SX.NotAgg, SX.evLookup, SX.evConvH, SX.evPtrEq, SX.isCells, SX.thaw, SX.frz, SX.fixB, SX.rootIx, SX.Froz, SX.frzStep, SX.fork, Go.Value.cells, Go.undef, cfg22, hc, ho0]
    refine ⟨by (unfold SX.Ob; first | trivial | omega | ((try simp only [SX.inK]); (try simp [SX.den, SX.IsU8, SX.AllP, *]); (try omega))), ?_⟩
    intro a3 w3 hr3 _
    exact post_retn (end3 hr3 rfl rfl rfl rfl ⟨.slice none 0 0, .slice none 0 0, by rw [hE]; simp [den, denL], by rw [hG]; exact OwS.nil.rd, by rw [hX]; exact OwS.nil.rd, hr3.keeps.toBelow⟩).1
  by_cases ho8 : 8 ≤ o
  · obtain ⟨hE, hG, hX⟩ := bad fun h => by have := h.2.2; omega
    refine seg cfg22_ok mixed PanicFree.body 1000 [true] [(14, false), (18, false)] h2 (by first | trivial | exact HpRep.nil | assumption) (by kernel_rfl) fun s_ hs_ => ?_
    simp (maxSteps := 10000000) [SX.vc, SX.stop, SX.contS, SX.contB, SX.contW, SX.contR, SX.contD, SX.sxStep, SX.stepPure, SX.stepNew, SX.stepStore, SX.stepKeep, SX.guardIx, SX.evOp, SX.opd, SX.opds, SX.optOpd, SX.look, SX.putS, SX.gobs, SX.AllP, SX.leave, SX.lookC, SX.lookB, SX.lookT, SX.lookN, SX.findK, SX.evBuiltin, SX.ints, SX.foldI, SX.evBin, SX.evInt, SX.evStr, SX.evEq, SX.arith, SX.evLoad, SX.shapeUp, SX.evFieldAddr, SX.evField, SX.evIndexAddr, SX.evIndex, SX.evFill, SX.evBuild, SX.szs, SX.cellsV, SX.evNew, SX.evStore, SX.spliceL, SX.SV.cells, SX.evConv, SX.evSlice, SX.bnd, SX.evNil, SX.evUn, SX.evPick, SX.pickOpd, SX.popTo, SX.cnd, SX.env0, SX.TD.isAgg, SX.TD.isIface, SX.tails, SX.NotAgg, SX.evLookup, SX.evConvH, SX.evPtrEq, SX.isCells, SX.thaw, SX.frz, SX.fixB, SX.rootIx, SX.Froz, SX.frzStep, SX.fork, Go.Value.cells, Go.undef, cfg22, hc, ho0, ho8]
    refine ⟨by (unfold SX.Ob; first | trivial | omega | ((try simp only [SX.inK]); (try simp [SX.den, SX.IsU8, SX.AllP, *]); (try omega))), ?_⟩
    intro a3 w3 hr3 _
    exact post_retn (end3 hr3 rfl rfl rfl rfl ⟨.slice none 0 0, .slice none 0 0, by rw [hE]; simp [den, denL], by rw [hG]; exact OwS.nil.rd, by rw [hX]; exact OwS.nil.rd, hr3.keeps.toBelow⟩).1
  have hT : TakeOK L o := ⟨hC, by omega, by omega⟩
  have hE : takeE L o = 0 := if_pos hT
  have hG : takeL L o = joinS (L.map (freeS o)) := if_pos hT
  have hX : takeW L o = L.filter (ownS o) := if_pos hT
  refine seg cfg22_ok mixed PanicFree.body 1000 [false] [(14, false), (18, false)] h2 (by first | trivial | exact HpRep.nil | assumption) (by kernel_rfl) fun s_ hs_ => ?_
  simp (maxSteps := 10000000) [SX.vc, SX.stop, SX.contS, SX.contB, SX.contW, SX.contR, SX.contD, SX.sxStep, SX.stepPure, SX.stepNew, SX.stepStore, SX.stepKeep, SX.guardIx, SX.evOp, SX.opd, SX.opds, SX.optOpd, SX.look, SX.putS, SX.gobs, SX.AllP, SX.leave, SX.lookC, SX.lookB, SX.lookT, SX.lookN, SX.findK, SX.evBuiltin, SX.ints, SX.foldI, SX.evBin, SX.evInt, SX.evStr, SX.evEq, SX.arith, SX.evLoad, SX.shapeUp, SX.evFieldAddr, SX.evField, SX.evIndexAddr, SX.evIndex, SX.evFill, SX.evBuild, SX.szs, SX.cellsV, SX.evNew, SX.evStore, SX.spliceL, SX.SV.cells, SX.evConv, SX.evSlice, SX.bnd, SX.evNil, SX.evUn, SX.evPick, SX.pickOpd, SX.popTo, SX.cnd, SX.env0, SX.TD.isAgg, SX.TD.isIface, SX.tails, SX.NotAgg, SX.evLookup, SX.evConvH, SX.evPtrEq, SX.isCells, SX.thaw, SX.frz, SX.fixB, SX.rootIx, SX.Froz, SX.frzStep, SX.fork, Go.Value.cells, Go.undef, cfg22, hc, ho0, ho8]
  refine ⟨by (unfold SX.Ob; first | trivial | omega | ((try simp only [SX.inK]); (try simp [SX.den, SX.IsU8, SX.AllP, *]); (try omega))), ?_⟩
  intro a3 w3 hr3 _
  refine post_loop (RtLoop w (.slice ad L.length cp) L o) L.length ⟨0, .slice none 0 0, .slice none 0 0, fun _ => False, fun _ => False, rfl, by omega, OwS.nil, OwS.nil, fun _ h => h.elim, fun _ h => h.elim, fun _ h => h.elim, hr3.re (by simp [envTo, SX.look]) trivial rfl rfl⟩ ?_
  rintro m a7 w7 ⟨k, vo, vw, PA, PB, rfl, hk, hOA, hOB, hAB, hA, hB, hr7⟩
  have z7 : w.heap.size ≤ w7.heap.size := hr7.keeps.size
  by_cases hlt : k < L.length
  · obtain ⟨b, o0, cap', u', fz, hP, hv, hrep⟩ := hL.opn hlt
    cases hv
    have hrep2 := SO.rep_same hrep (hr7.keeps.toBelow.block _ (SO.rep_lt hrep))
    obtain ⟨x, hx⟩ : ∃ x, nth spn0 L k = x := ⟨_, rfl⟩
    have hft := filter_take (p := ownS o) hlt hx
    have hwl : (List.filter (ownS o) (List.take k L)).length ≤ 100000 := Nat.le_trans (List.length_filter_le _ _) (by simp; omega)
    have hstep : (L.take (k + 1)).map (freeS o) = (L.take k).map (freeS o) ++ [freeS o x] := by rw [take_nth (d := spn0) hlt, hx, List.map_append]; rfl
    have h8 := (hr7.top 22 (.sl 0 b o0 0 L.length cp 4) rfl (by simp [den])).see _ (HpAll.one hrep2)
    by_cases how : x.ow = o
    · have hfx : freeS o x = { x with ow := -1, ep := 0 } := if_pos how
      rw [show ownS o x = true by simp [ownS, how], if_pos rfl] at hft
      refine seg cfg22_ok mixed PanicFree.body 1000 [true, true] [] h8.rebase (by first | trivial | exact HpRep.nil | assumption) (by kernel_rfl) fun sC hsC => ?_
      simp (maxSteps := 10000000) [SX.vc, SX.stop, SX.contS, SX.contB, SX.contW, SX.contR, SX.contD, SX.sxStep, SX.stepPure, SX.stepNew, SX.stepStore, SX.stepKeep, SX.guardIx, SX.evOp, SX.opd, SX.opds, SX.optOpd, SX.look, SX.putS, SX.gobs, SX.AllP, SX.leave, SX.lookC, SX.lookB, SX.lookT, SX.lookN, SX.findK, SX.evBuiltin, SX.ints, SX.foldI, SX.evBin, SX.evInt, SX.evStr, SX.evEq, SX.arith, SX.evLoad, SX.shapeUp, SX.evFieldAddr, SX.evField, SX.evIndexAddr, SX.evIndex, SX.evFill, SX.evBuild, SX.szs, SX.cellsV, SX.evNew, SX.evStore, SX.spliceL, SX.SV.cells, SX.evConv, SX.evSlice, SX.bnd, SX.evNil, SX.evUn, SX.evPick, SX.pickOpd, SX.popTo, SX.cnd, SX.env0, SX.TD.isAgg, SX.TD.isIface, SX.tails, SX.NotAgg, SX.evLookup, SX.evConvH, SX.evPtrEq, SX.isCells, SX.thaw, SX.frz, SX.fixB, SX.rootIx, SX.Froz, SX.frzStep, SX.fork, Go.Value.cells, Go.undef, cfg22, spnC, hx, how]
      refine ⟨by (unfold SX.Ob; first | trivial | omega | ((try simp only [SX.inK]); (try simp [SX.den, SX.IsU8, SX.AllP, *]); (try omega))), ?_⟩
      intro a9 w9 hr9' _
      have hr9 := h8.unbase hr9'
      have z9 : w7.heap.size ≤ w9.heap.size := hr9'.keeps.size
      have hOA9 := hOA.keep hr9'.keeps (by simp [frameAt, mutB])
      have hOB9 := (hOB.keep hr9'.keeps (by simp [frameAt, mutB])).mono (P' := fun x => PB x ∨ w9.heap.size ≤ x) fun x _ h => .inl h
      have hA9 := hr9.all.2.1
      have hsC : sC < w9.heap.size := SO.rep_lt hA9.1
      have hsB : ¬ (PB sC ∨ w9.heap.size ≤ sC) := fun h => by
        rcases h with h | h
        · have := (hB _ h).2
          omega
        · omega
      have hF9 : ∀ x, (PB x ∨ w9.heap.size ≤ x) → (frame0 w).B ≤ x ∨ x ∈ (frame0 w).M := fun x hx => .inl (by
        show w.heap.size ≤ x
        rcases hx with h | h
        · exact (hB _ h).1
        · omega)
      refine post_app (C := cfg22) cfg22_ok hr9 (by first | exact wanted_none rfl | exact wanted_zero (hr9.env.same rfl rfl rfl rfl) rfl (by simp)) rfl (by simp) rfl rfl rfl rfl rfl rfl rfl rfl rfl (by decide) (flatS _) (by (try simp only [List.length_append, List.length_cons, List.length_nil, List.length_map, List.length_take]); omega) (fun x hx => .inr hx) hOB9 (RdS.lit (x := x) hr9.all.2.2.1.1 (by simp [spnC, how])) [(sC, true, .cells [.v (.int .i64 x.fr), .v (.int .i64 x.to), .v (.int .i64 o), .v (.int .i64 x.ep)] 35)] (fun w' B hk hB' => ⟨⟨KeepsTo.same hk hA9.1 (fun h => hsB (hB' _ h).1), hA9.2.1, by simp⟩, trivial⟩) hF9 fun V10 a10 w10 B10 hOB10 hB10 hk10 hr10 => ?_
      have hOA10 := hOA9.keep hk10 (fun y hy hPA => by
        rcases (hB10 y hy).1 with h | h
        · exact hAB _ hPA h
        · have := (hA _ hPA).2
          omega)
      have z10 : w9.heap.size ≤ w10.heap.size := hk10.size
      have hr10 := hr10.top 10 (.ptr 0 sC 0) rfl (by simp [den])
      refine seg cfg22_ok mixed PanicFree.body 1000 [] [] hr10.rebase (by first | trivial | exact HpRep.nil | assumption) (by kernel_rfl) fun s_ hs_ => ?_
      simp (maxSteps := 10000000) [SX.vc, SX.stop, SX.contS, SX.contB, SX.contW, SX.contR, SX.contD, SX.sxStep, SX.stepPure, SX.stepNew, SX.stepStore, SX.stepKeep, SX.guardIx, SX.evOp, SX.opd, SX.opds, SX.optOpd, SX.look, SX.putS, SX.gobs, SX.AllP, SX.leave, SX.lookC, SX.lookB, SX.lookT, SX.lookN, SX.findK, SX.evBuiltin, SX.ints, SX.foldI, SX.evBin, SX.evInt, SX.evStr, SX.evEq, SX.arith, SX.evLoad, SX.shapeUp, SX.evFieldAddr, SX.evField, SX.evIndexAddr, SX.evIndex, SX.evFill, SX.evBuild, SX.szs, SX.cellsV, SX.evNew, SX.evStore, SX.spliceL, SX.SV.cells, SX.evConv, SX.evSlice, SX.bnd, SX.evNil, SX.evUn, SX.evPick, SX.pickOpd, SX.popTo, SX.cnd, SX.env0, SX.TD.isAgg, SX.TD.isIface, SX.tails, SX.NotAgg, SX.evLookup, SX.evConvH, SX.evPtrEq, SX.isCells, SX.thaw, SX.frz, SX.fixB, SX.rootIx, SX.Froz, SX.frzStep, SX.fork, Go.Value.cells, Go.undef, cfg22]
      refine ⟨by (unfold SX.Ob; first | trivial | omega | ((try simp only [SX.inK]); (try simp [SX.den, SX.IsU8, SX.AllP, *]); (try omega))), ?_⟩
      intro a11 w11 hr11' _
      have hr11 := hr10.unbase hr11'
      have z11 : w10.heap.size ≤ w11.heap.size := hr11'.keeps.size
      have hOA11 := (hOA10.keep hr11'.keeps (by
        simp only [frameAt, mutB]
        intro y hy hPA
        have := (hA _ hPA).2
        simp at hy
        omega)).mono (P' := fun x => PA x ∨ w11.heap.size ≤ x) fun x _ h => .inl h
      have hOB11 := (hOB10.mono (P' := fun x => (PB x ∨ w9.heap.size ≤ x) ∧ x < w10.heap.size) fun x h1 h2 => ⟨h2, h1⟩).keep hr11'.keeps (by
        simp only [frameAt, mutB]
        intro y hy hPB
        simp at hy
        subst hy
        exact hsB hPB.1)
      have hlm : (List.map (freeS o) (List.take k L)).length ≤ 100000 := by simp; omega
      have hF11 : ∀ x, (PA x ∨ w11.heap.size ≤ x) → (frame0 w).B ≤ x ∨ x ∈ (frame0 w).M := fun x hx => .inl (by
        show w.heap.size ≤ x
        rcases hx with h | h
        · exact (hA _ h).1
        · omega)
      refine post_app (C := cfg22) cfg22_ok hr11 (by first | exact wanted_none rfl | exact wanted_zero (hr11.env.same rfl rfl rfl rfl) rfl (by simp)) rfl (by simp) rfl rfl rfl rfl rfl rfl rfl rfl rfl (by decide) (flatS _) (by (try simp only [List.length_append, List.length_cons, List.length_nil, List.length_map, List.length_take]); omega) (fun x hx => .inr hx) hOA11 (RdS.lit (x := freeS o x) hr11.all.2.1.1 (by simp [spnC, hfx])) [] (fun _ _ _ _ => trivial) hF11 fun V12 a12 w12 B12 hOA12 hB12 hk12 hr12 => ?_
      have hOB12 := hOB11.keep hk12 (fun y hy hPB => by
        rcases (hB12 y hy).1 with h | h
        · have h1 := (hA _ h).2
          rcases hPB.1 with h2 | h2
          · exact hAB _ h h2
          · omega
        · have := hPB.2
          omega)
      have z12 : w11.heap.size ≤ w12.heap.size := hk12.size
      refine seg cfg22_ok mixed PanicFree.body 1000 [] [] hr12.rebase (by first | trivial | exact HpRep.nil | assumption) (by kernel_rfl) fun s_ hs_ => ?_
      simp (maxSteps := 10000000) [SX.vc, SX.stop, SX.contS, SX.contB, SX.contW, SX.contR, SX.contD, SX.sxStep, SX.stepPure, SX.stepNew, SX.stepStore, SX.stepKeep, SX.guardIx, SX.evOp, SX.opd, SX.opds, SX.optOpd, SX.look, SX.putS, SX.gobs, SX.AllP, SX.leave, SX.lookC, SX.lookB, SX.lookT, SX.lookN, SX.findK, SX.evBuiltin, SX.ints, SX.foldI, SX.evBin, SX.evInt, SX.evStr, SX.evEq, SX.arith, SX.evLoad, SX.shapeUp, SX.evFieldAddr, SX.evField, SX.evIndexAddr, SX.evIndex, SX.evFill, SX.evBuild, SX.szs, SX.cellsV, SX.evNew, SX.evStore, SX.spliceL, SX.SV.cells, SX.evConv, SX.evSlice, SX.bnd, SX.evNil, SX.evUn, SX.evPick, SX.pickOpd, SX.popTo, SX.cnd, SX.env0, SX.TD.isAgg, SX.TD.isIface, SX.tails, SX.NotAgg, SX.evLookup, SX.evConvH, SX.evPtrEq, SX.isCells, SX.thaw, SX.frz, SX.fixB, SX.rootIx, SX.Froz, SX.frzStep, SX.fork, Go.Value.cells, Go.undef, cfg22]
      refine ⟨by (unfold SX.Ob; first | trivial | omega | ((try simp only [SX.inK]); (try simp [SX.den, SX.IsU8, SX.AllP, *]); (try omega))), ?_⟩
      intro a13 w13 hr13' _
      have hr13 := hr12.unbase hr13'
      have z13 : w12.heap.size ≤ w13.heap.size := hr13'.keeps.size
      exact post_rnd (L.length - (k + 1)) (by omega) ⟨k + 1, V12, V10, fun x => (PA x ∨ w11.heap.size ≤ x) ∧ x < w12.heap.size, fun x => (PB x ∨ w9.heap.size ≤ x) ∧ x < w10.heap.size, rfl, hlt, by rw [hstep]; exact (hOA12.mono (P' := fun x => (PA x ∨ w11.heap.size ≤ x) ∧ x < w12.heap.size) fun x h1 h2 => ⟨h2, h1⟩).keep hr13'.keeps (by simp [frameAt, mutB]), by rw [hft]; exact hOB12.keep hr13'.keeps (by simp [frameAt, mutB]), fun x h1 h2 => (by
        rcases h1.1 with g | g <;> rcases h2.1 with g' | g'
        · exact hAB _ g g'
        · have := (hA _ g).2
          omega
        · have := (hB _ g').2
          omega
        · have := h2.2
          omega), fun x h => (by
        have h2 := h.2
        rcases h.1 with g | g
        · exact ⟨(hA _ g).1, by omega⟩
        · exact ⟨by omega, by omega⟩), fun x h => (by
        have h2 := h.2
        rcases h.1 with g | g
        · exact ⟨(hB _ g).1, by omega⟩
        · exact ⟨by omega, by omega⟩), hr13.re (by simp [envTo, SX.look, den]) trivial rfl rfl⟩
    · have hfx : freeS o x = x := if_neg how
      rw [show ownS o x = false by simp [ownS, how]] at hft
      simp only [Bool.false_eq_true, if_false, List.append_nil] at hft
      refine seg cfg22_ok mixed PanicFree.body 1000 [true, false] [] h8.rebase (by first | trivial | exact HpRep.nil | assumption) (by kernel_rfl) fun s_ hs_ => ?_
      simp (maxSteps := 10000000) [SX.vc, SX.stop, SX.contS, SX.contB, SX.contW, SX.contR, SX.contD, SX.sxStep, SX.stepPure, SX.stepNew, SX.stepStore, SX.stepKeep, SX.guardIx, SX.evOp, SX.opd, SX.opds, SX.optOpd, SX.look, SX.putS, SX.gobs, SX.AllP, SX.leave, SX.lookC, SX.lookB, SX.lookT, SX.lookN, SX.findK, SX.evBuiltin, SX.ints, SX.foldI, SX.evBin, SX.evInt, SX.evStr, SX.evEq, SX.arith, SX.evLoad, SX.shapeUp, SX.evFieldAddr, SX.evField, SX.evIndexAddr, SX.evIndex, SX.evFill, SX.evBuild, SX.szs, SX.cellsV, SX.evNew, SX.evStore, SX.spliceL, SX.SV.cells, SX.evConv, SX.evSlice, SX.bnd, SX.evNil, SX.evUn, SX.evPick, SX.pickOpd, SX.popTo, SX.cnd, SX.env0, SX.TD.isAgg, SX.TD.isIface, SX.tails, SX.NotAgg, SX.evLookup, SX.evConvH, SX.evPtrEq, SX.isCells, SX.thaw, SX.frz, SX.fixB, SX.rootIx, SX.Froz, SX.frzStep, SX.fork, Go.Value.cells, Go.undef, cfg22, spnC, hx, how]
      refine ⟨by (unfold SX.Ob; first | trivial | omega | ((try simp only [SX.inK]); (try simp [SX.den, SX.IsU8, SX.AllP, *]); (try omega))), ?_⟩
      intro a9 w9 hr9' _
      have hr9 := h8.unbase hr9'
      have z9 : w7.heap.size ≤ w9.heap.size := hr9'.keeps.size
      have hOA9 := (hOA.keep hr9'.keeps (by simp [frameAt, mutB])).mono (P' := fun x => PA x ∨ w9.heap.size ≤ x) fun x _ h => .inl h
      have hOB9 := hOB.keep hr9'.keeps (by simp [frameAt, mutB])
      have hlm : (List.map (freeS o) (List.take k L)).length ≤ 100000 := by simp; omega
      have hF9 : ∀ x, (PA x ∨ w9.heap.size ≤ x) → (frame0 w).B ≤ x ∨ x ∈ (frame0 w).M := fun x hx => .inl (by
        show w.heap.size ≤ x
        rcases hx with h | h
        · exact (hA _ h).1
        · omega)
      refine post_app (C := cfg22) cfg22_ok hr9 (by first | exact wanted_none rfl | exact wanted_zero (hr9.env.same rfl rfl rfl rfl) rfl (by simp)) rfl (by simp) rfl rfl rfl rfl rfl rfl rfl rfl rfl (by decide) (flatS _) (by (try simp only [List.length_append, List.length_cons, List.length_nil, List.length_map, List.length_take]); omega) (fun x hx => .inr hx) hOA9 (RdS.lit (x := freeS o x) hr9.all.2.2.1.1 (by simp [spnC, hfx])) [] (fun _ _ _ _ => trivial) hF9 fun V12 a12 w12 B12 hOA12 hB12 hk12 hr12 => ?_
      have hOB12 := hOB9.keep hk12 (fun y hy hPB => by
        rcases (hB12 y hy).1 with h | h
        · exact hAB _ h hPB
        · have := (hB _ hPB).2
          omega)
      have z12 : w9.heap.size ≤ w12.heap.size := hk12.size
      refine seg cfg22_ok mixed PanicFree.body 1000 [] [] hr12.rebase (by first | trivial | exact HpRep.nil | assumption) (by kernel_rfl) fun s_ hs_ => ?_
      simp (maxSteps := 10000000) [SX.vc, SX.stop, SX.contS, SX.contB, SX.contW, SX.contR, SX.contD, SX.sxStep, SX.stepPure, SX.stepNew, SX.stepStore, SX.stepKeep, SX.guardIx, SX.evOp, SX.opd, SX.opds, SX.optOpd, SX.look, SX.putS, SX.gobs, SX.AllP, SX.leave, SX.lookC, SX.lookB, SX.lookT, SX.lookN, SX.findK, SX.evBuiltin, SX.ints, SX.foldI, SX.evBin, SX.evInt, SX.evStr, SX.evEq, SX.arith, SX.evLoad, SX.shapeUp, SX.evFieldAddr, SX.evField, SX.evIndexAddr, SX.evIndex, SX.evFill, SX.evBuild, SX.szs, SX.cellsV, SX.evNew, SX.evStore, SX.spliceL, SX.SV.cells, SX.evConv, SX.evSlice, SX.bnd, SX.evNil, SX.evUn, SX.evPick, SX.pickOpd, SX.popTo, SX.cnd, SX.env0, SX.TD.isAgg, SX.TD.isIface, SX.tails, SX.NotAgg, SX.evLookup, SX.evConvH, SX.evPtrEq, SX.isCells, SX.thaw, SX.frz, SX.fixB, SX.rootIx, SX.Froz, SX.frzStep, SX.fork, Go.Value.cells, Go.undef, cfg22]
      refine ⟨by (unfold SX.Ob; first | trivial | omega | ((try simp only [SX.inK]); (try simp [SX.den, SX.IsU8, SX.AllP, *]); (try omega))), ?_⟩
      intro a13 w13 hr13' _
      have hr13 := hr12.unbase hr13'
      have z13 : w12.heap.size ≤ w13.heap.size := hr13'.keeps.size
      exact post_rnd (L.length - (k + 1)) (by omega) ⟨k + 1, V12, vw, fun x => (PA x ∨ w9.heap.size ≤ x) ∧ x < w12.heap.size, PB, rfl, hlt, by rw [hstep]; exact (hOA12.mono (P' := fun x => (PA x ∨ w9.heap.size ≤ x) ∧ x < w12.heap.size) fun x h1 h2 => ⟨h2, h1⟩).keep hr13'.keeps (by simp [frameAt, mutB]), by rw [hft]; exact hOB12.keep hr13'.keeps (by simp [frameAt, mutB]), fun x h1 h2 => (by
        rcases h1.1 with g | g
        · exact hAB _ g h2
        · have := (hB _ h2).2
          omega), fun x h => (by
        have h2 := h.2
        rcases h.1 with g | g
        · exact ⟨(hA _ g).1, by omega⟩
        · exact ⟨by omega, by omega⟩), fun x h => ⟨(hB _ h).1, by have := (hB _ h).2; omega⟩, hr13.re (by simp [envTo, SX.look, den]) trivial rfl rfl⟩
  · obtain rfl : k = L.length := by omega
    simp only [List.take_length] at hOA hOB
    refine seg cfg22_ok mixed PanicFree.body 1000 [false] [] hr7.rebase (by first | trivial | exact HpRep.nil | assumption) (by kernel_rfl) fun s_ hs_ => ?_
    simp (maxSteps := 10000000) [SX.vc, SX.stop, SX.contS, SX.contB, SX.contW, SX.contR, SX.contD, SX.sxStep, SX.stepPure, SX.stepNew, SX.stepStore, SX.stepKeep, SX.guardIx, SX.evOp, SX.opd, SX.opds, SX.optOpd, SX.look, SX.putS, SX.gobs, SX.AllP, SX.leave, SX.lookC, SX.lookB, SX.lookT, SX.lookN, SX.findK, SX.evBuiltin, SX.ints, SX.foldI, SX.evBin, SX.evInt, SX.evStr, SX.evEq, SX.arith, SX.evLoad, SX.shapeUp, SX.evFieldAddr, SX.evField, SX.evIndexAddr, SX.evIndex, SX.evFill, SX.evBuild, SX.szs, SX.cellsV, SX.evNew, SX.evStore, SX.spliceL, SX.SV.cells, SX.evConv, SX.evSlice, SX.bnd, SX.evNil, SX.evUn, SX.evPick, SX.pickOpd, SX.popTo, SX.cnd, SX.env0, SX.TD.isAgg, SX.TD.isIface, SX.tails, SX.NotAgg, SX.evLookup, SX.evConvH, SX.evPtrEq, SX.isCells, SX.thaw, SX.frz, SX.fixB, SX.rootIx, SX.Froz, SX.frzStep, SX.fork, Go.Value.cells, Go.undef, cfg22]
    refine ⟨by (unfold SX.Ob; first | trivial | omega | ((try simp only [SX.inK]); (try simp [SX.den, SX.IsU8, SX.AllP, *]); (try omega))), ?_⟩
    intro a9 w9 hr9' _
    have hr9 := hr7.unbase hr9'
    have hOA9 := hOA.keep hr9'.keeps (by simp [frameAt, mutB])
    have hOB9 := hOB.keep hr9'.keeps (by simp [frameAt, mutB])
    have z9 : w7.heap.size ≤ w9.heap.size := hr9'.keeps.size
    have hjg := (rjoin_ok w9 vo (L.map (freeS o)) hOA9.rd (by simp; omega)).mono (R' := fun ev w' => ∃ v', ev = .returned (den (.tu [.v v', .v (.int .i64 0)])) ∧ OwP (fun x => w9.heap.size ≤ x) w' v' (joinS (L.map (freeS o))) ∧ Below w9.heap.size w9 w') fun ev w' h => by
      rcases h with ⟨⟨_, v', he, hv⟩ | ⟨hn, _⟩, hb⟩
      · exact ⟨v', he, hv, hb⟩
      · exact absurd (hFC hC) hn
    refine post_call 20 [.v vo] hr9 (by first | exact wanted_none rfl | exact wanted_zero (hr9.env.same rfl rfl rfl rfl) rfl (by simp)) rfl (callable 20 Try.func20) (hjg) ?_
    rintro e10 w10 ⟨v10, rfl, hO10, hb10⟩
    refine ⟨_, rfl, ?_⟩
    have h10 := hr9.ret hb10 45 (.tu [.v v10, .v (.int .i64 0)]) rfl _ (hr9.all.below hb10) (by simp) rfl
    have hW10 := hOB9.below hb10
    refine seg cfg22_ok mixed PanicFree.body 1000 [] [] h10.rebase (by first | trivial | exact HpRep.nil | assumption) (by kernel_rfl) fun s_ hs_ => ?_
    simp (maxSteps := 10000000) [SX.vc, SX.stop, SX.contS, SX.contB, SX.contW, SX.contR, SX.contD, SX.sxStep, SX.stepPure, SX.stepNew, SX.stepStore, SX.stepKeep, SX.guardIx, SX.evOp, SX.opd, SX.opds, SX.optOpd, SX.look, SX.putS, SX.gobs, SX.AllP, SX.leave, SX.lookC, SX.lookB, SX.lookT, SX.lookN, SX.findK, SX.evBuiltin, SX.ints, SX.foldI, SX.evBin, SX.evInt, SX.evStr, SX.evEq, SX.arith, SX.evLoad, SX.shapeUp, SX.evFieldAddr, SX.evField, SX.evIndexAddr, SX.evIndex, SX.evFill, SX.evBuild, SX.szs, SX.cellsV, SX.evNew, SX.evStore, SX.spliceL, SX.SV.cells, SX.evConv, SX.evSlice, SX.bnd, SX.evNil, SX.evUn, SX.evPick, SX.pickOpd, SX.popTo, SX.cnd, SX.env0, SX.TD.isAgg, SX.TD.isIface, SX.tails, SX.NotAgg, SX.evLookup, SX.evConvH, SX.evPtrEq, SX.isCells, SX.thaw, SX.frz, SX.fixB, SX.rootIx, SX.Froz, SX.frzStep, SX.fork, Go.Value.cells, Go.undef, cfg22]
    refine ⟨by (unfold SX.Ob; first | trivial | omega | ((try simp only [SX.inK]); (try simp [SX.den, SX.IsU8, SX.AllP, *]); (try omega))), ?_⟩
    intro a11 w11 hr11' _
    have hr11 := h10.unbase hr11'
    exact post_retn (end3 hr11 rfl rfl rfl rfl ⟨v10, vw, by rw [hE]; simp [den, denL], by rw [hG]; exact (hO10.rd.mono (P' := fun x => w.heap.size ≤ x) fun x _ h => by omega).keep hr11'.keeps (by simp [frameAt, mutB]), by rw [hX]; exact (hW10.rd.mono (P' := fun x => w.heap.size ≤ x) fun x _ h => (hB _ h).1).keep hr11'.keeps (by simp [frameAt, mutB]), hr11.keeps.toBelow⟩).1
end Go.Proofs
