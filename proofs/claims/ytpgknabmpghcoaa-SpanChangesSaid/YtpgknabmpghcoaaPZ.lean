/- Spans: the document's Parts. -/
import Derived.Test.YtpgknabmpghcoaaPF
import Derived.Test.YtpgknabmpghcoaaPL
namespace Go.Proofs
set_option linter.unusedVariables false
set_option linter.unusedSimpArgs false
open Go Go.SX Go.RowKit

/-- A span's part in some blocks. -/
def clipS (f t : Int) (s : Spn) : Spn := { s with fr := if s.fr < f then f else s.fr, to := if t < s.to then t else s.to }
/-- Spans' parts in some blocks. -/
def partS (f t : Int) : List Spn → List Spn
  | [] => []
  | s :: r => (if (clipS f t s).fr < (clipS f t s).to then [clipS f t s] else []) ++ partS f t r
theorem partS_len (f t : Int) : ∀ L : List Spn, (partS f t L).length ≤ L.length
  | [] => by simp [partS]
  | s :: r => by
    have := partS_len f t r
    unfold partS
    split <;> simp <;> omega

def partE (L : List Spn) (f t : Int) : Int := if Within L f t then 0 else 1
def partL (L : List Spn) (f t : Int) : List Spn := if Within L f t then partS f t L else []
def PartsR (w : World) (L : List Spn) (f t : Int) (e : Ending) (w' : World) : Prop := ∃ v', e = .returned (den (.tu [.v v', .v (.int .i64 (partE L f t))])) ∧ OwP (fun x => w.heap.size ≤ x) w' v' (partL L f t) ∧ Below w.heap.size w w'

def PtLoop (w : World) (v : Value) (L : List Spn) (f t : Int) (m : Nat) (a : Act) (w' : World) : Prop :=
  ∃ (k : Nat) (out : List Spn) (v' : Value), m = L.length - k ∧ k ≤ L.length ∧ out ++ partS f t (L.drop k) = partS f t L ∧ out.length ≤ k ∧ OwP (fun x => w.heap.size ≤ x) w' v' out ∧
    RepX (frame0 w) ⟨[(31, 0, .v (.int .i64 k)), (30, 0, .v (.int .i64 L.length)), (29, 0, .v v), (8, 0, .v v'), (1, 0, .v (.int .i64 f)), (2, 0, .v (.int .i64 t)), (6, 0, .v (.slice none 0 0)), (7, 0, .v (.int .i64 0))], [], 0, 0, 56, [], [], []⟩ a w'

set_option maxRecDepth 100000 in
set_option maxHeartbeats 16000000 in
/-- The document's Parts. -/
theorem rparts_ok {P : Nat → Prop} (w : World) (v : Value) (L : List Spn) (f t : Int) (hL : RdP P w v L) (hn : L.length ≤ 1000000) : Calls Try.prog 36 (denL [.v v, .v (.int .i64 f), .v (.int .i64 t)]).toArray w (PartsR w L f t) := by
  obtain ⟨ad, cp, rfl⟩ := hL.slice
  refine enter (F := frame0 w) Try.func36 rfl [.v (.slice ad L.length cp), .v (.int .i64 f), .v (.int .i64 t)] [] (by simp [Try.f36]) trivial (keeps0 w) fun a hr => ?_
  refine seg cfg36_ok mixed PanicFree.body 1000 [] [] hr (by first | trivial | exact HpRep.nil | assumption) (by kernel_rfl) fun s_ hs_ => ?_
  simp (maxSteps := 10000000) [SX.vc, SX.stop, SX.contS, SX.contB, SX.contW, SX.contR, SX.contD, SX.sxStep, SX.stepPure, SX.stepNew, SX.stepStore, SX.stepKeep, SX.guardIx, SX.evOp, SX.opd, SX.opds, SX.optOpd, SX.look, SX.putS, SX.gobs, SX.AllP, SX.leave, SX.lookC, SX.lookB, SX.lookT, SX.lookN, SX.findK, SX.evBuiltin, SX.ints, SX.foldI, SX.evBin, SX.evInt, SX.evStr, SX.evEq, SX.arith, SX.evLoad, SX.shapeUp, SX.evFieldAddr, SX.evField, SX.evIndexAddr, SX.evIndex, SX.evFill, SX.evBuild, SX.szs, SX.cellsV, SX.evNew, SX.evStore, SX.spliceL, SX.SV.cells, SX.evConv, SX.evSlice, SX.bnd, SX.evNil, SX.evUn, SX.evPick, SX.pickOpd, SX.popTo, SX.cnd, SX.env0, SX.TD.isAgg, SX.TD.isIface, SX.tails, SX.NotAgg, SX.evLookup, SX.evConvH, SX.evPtrEq, SX.isCells, SX.thaw, SX.frz, SX.fixB, SX.rootIx, SX.Froz, SX.frzStep, SX.fork, Go.Value.cells, Go.undef, cfg36, Try.f36]
  refine ⟨by (unfold SX.Ob; first | trivial | omega | ((try simp only [SX.inK]); (try simp [SX.den, SX.IsU8, SX.AllP, *]); (try omega))), ?_⟩
  intro a1 w1 hr1 _
  refine post_call 11 [.v (.slice ad L.length cp)] hr1 (by first | exact wanted_none rfl | exact wanted_zero (hr1.env.same rfl rfl rfl rfl) rfl (by simp)) rfl (callable 11 Try.func11) (rcheck_ok w1 _ L (hL.below hr1.keeps.toBelow) (by omega)) ?_
  rintro e2 w2 ⟨rfl, hb2⟩
  refine ⟨_, rfl, ?_⟩
  have h2 := hr1.ret hb2 12 (.v (.int .i64 (chkP L))) rfl _ (hr1.all.below hb2) (by simp) rfl
  have bad : ¬ Within L f t → partE L f t = 1 ∧ partL L f t = [] := fun h => ⟨if_neg h, if_neg h⟩
  by_cases hC : ChkP L
  rotate_left
  · have hc : chkP L = 1 := if_neg hC
    obtain ⟨hE, hG⟩ := bad fun h => hC h.1
    refine seg cfg36_ok mixed PanicFree.body 1000 [true] [(14, true), (18, true), (23, true)] h2 (by first | trivial | exact HpRep.nil | assumption) (by kernel_rfl) fun s_ hs_ => ?_
    simp (maxSteps := 10000000) [SX.vc, SX.stop, SX.contS, SX.contB, SX.contW, SX.contR, SX.contD, SX.sxStep, SX.stepPure, SX.stepNew, SX.stepStore, SX.stepKeep, SX.guardIx, SX.evOp, SX.opd, SX.opds, SX.optOpd, SX.look, SX.putS, SX.gobs, SX.AllP, SX.leave, SX.lookC, SX.lookB, SX.lookT, SX.lookN, SX.findK, SX.evBuiltin, SX.ints, SX.foldI, SX.evBin, SX.evInt, SX.evStr, SX.evEq, SX.arith, SX.evLoad, SX.shapeUp, SX.evFieldAddr, SX.evField, SX.evIndexAddr, SX.evIndex, SX.evFill, SX.evBuild, SX.szs, SX.cellsV, SX.evNew, SX.evStore, SX.spliceL, SX.SV.cells, SX.evConv, SX.evSlice, SX.bnd, SX.evNil, SX.evUn, SX.evPick, SX.pickOpd, SX.popTo, SX.cnd, SX.env0, SX.TD.isAgg, SX.TD.isIface, SX.tails, SX.NotAgg, SX.evLookup, SX.evConvH, SX.evPtrEq, SX.isCells, SX.thaw, SX.frz, SX.fixB, SX.rootIx, SX.Froz, SX.frzStep, SX.fork, Go.Value.cells, Go.undef, cfg36, hc]
    refine ⟨by (unfold SX.Ob; first | trivial | omega | ((try simp only [SX.inK]); (try simp [SX.den, SX.IsU8, SX.AllP, *]); (try omega))), ?_⟩
    intro a3 w3 hr3 _
    exact post_retn (end2 hr3 rfl rfl rfl ⟨.slice none 0 0, by rw [hE]; simp [den, denL], by rw [hG]; exact OwS.nil, hr3.keeps.toBelow⟩).1
  have hc : chkP L = 0 := if_pos hC
  by_cases hf : f < 0
  · obtain ⟨hE, hG⟩ := bad fun h => by have := h.2.1; omega
    refine seg cfg36_ok mixed PanicFree.body 1000 [true] [(14, false), (18, true), (23, true)] h2 (by first | trivial | exact HpRep.nil | assumption) (by kernel_rfl) fun s_ hs_ => ?_
    simp (maxSteps := 10000000) [SX.vc, SX.stop, SX.contS, SX.contB, SX.contW, SX.contR, SX.contD, SX.sxStep, SX.stepPure, SX.stepNew, SX.stepStore, SX.stepKeep, SX.guardIx, SX.evOp, SX.opd, SX.opds, SX.optOpd, SX.look, SX.putS, SX.gobs, SX.AllP, SX.leave, SX.lookC, SX.lookB, SX.lookT, SX.lookN, SX.findK, SX.evBuiltin, SX.ints, SX.foldI, SX.evBin, SX.evInt, SX.evStr, SX.evEq, SX.arith, SX.evLoad, SX.shapeUp, SX.evFieldAddr, SX.evField, SX.evIndexAddr, SX.evIndex, SX.evFill, SX.evBuild, SX.szs, SX.cellsV, SX.evNew, SX.evStore, SX.spliceL, SX.SV.cells, SX.evConv, SX.evSlice, SX.bnd, SX.evNil, SX.evUn, SX.evPick, SX.pickOpd, SX.popTo, SX.cnd, SX.env0, SX.TD.isAgg, SX.TD.isIface, SX.tails, SX.NotAgg, SX.evLookup, SX.evConvH, SX.evPtrEq, SX.isCells, SX.thaw, SX.frz, SX.fixB, SX.rootIx, SX.Froz, SX.frzStep, SX.fork, Go.Value.cells, Go.undef, cfg36, hc, hf]
    refine ⟨by (unfold SX.Ob; first | trivial | omega | ((try simp only [SX.inK]); (try simp [SX.den, SX.IsU8, SX.AllP, *]); (try omega))), ?_⟩
    intro a3 w3 hr3 _
    exact post_retn (end2 hr3 rfl rfl rfl ⟨.slice none 0 0, by rw [hE]; simp [den, denL], by rw [hG]; exact OwS.nil, hr3.keeps.toBelow⟩).1
  by_cases hft : t ≤ f
  · obtain ⟨hE, hG⟩ := bad fun h => by have := h.2.2.1; omega
    refine seg cfg36_ok mixed PanicFree.body 1000 [true] [(14, false), (18, false), (23, true)] h2 (by first | trivial | exact HpRep.nil | assumption) (by kernel_rfl) fun s_ hs_ => ?_
    simp (maxSteps := 10000000) [SX.vc, SX.stop, SX.contS, SX.contB, SX.contW, SX.contR, SX.contD, SX.sxStep, SX.stepPure, SX.stepNew, SX.stepStore, SX.stepKeep, SX.guardIx, SX.evOp, SX.opd, SX.opds, SX.optOpd, SX.look, SX.putS, SX.gobs, SX.AllP, SX.leave, SX.lookC, SX.lookB, SX.lookT, SX.lookN, SX.findK, SX.evBuiltin, SX.ints, SX.foldI, SX.evBin, SX.evInt, SX.evStr, SX.evEq, SX.arith, SX.evLoad, SX.shapeUp, SX.evFieldAddr, SX.evField, SX.evIndexAddr, SX.evIndex, SX.evFill, SX.evBuild, SX.szs, SX.cellsV, SX.evNew, SX.evStore, SX.spliceL, SX.SV.cells, SX.evConv, SX.evSlice, SX.bnd, SX.evNil, SX.evUn, SX.evPick, SX.pickOpd, SX.popTo, SX.cnd, SX.env0, SX.TD.isAgg, SX.TD.isIface, SX.tails, SX.NotAgg, SX.evLookup, SX.evConvH, SX.evPtrEq, SX.isCells, SX.thaw, SX.frz, SX.fixB, SX.rootIx, SX.Froz, SX.frzStep, SX.fork, Go.Value.cells, Go.undef, cfg36, hc, hf, hft]
    refine ⟨by (unfold SX.Ob; first | trivial | omega | ((try simp only [SX.inK]); (try simp [SX.den, SX.IsU8, SX.AllP, *]); (try omega))), ?_⟩
    intro a3 w3 hr3 _
    exact post_retn (end2 hr3 rfl rfl rfl ⟨.slice none 0 0, by rw [hE]; simp [den, denL], by rw [hG]; exact OwS.nil, hr3.keeps.toBelow⟩).1
  refine seg cfg36_ok mixed PanicFree.body 1000 [] [(14, false), (18, false), (23, false)] h2 (by first | trivial | exact HpRep.nil | assumption) (by kernel_rfl) fun s_ hs_ => ?_
  simp (maxSteps := 10000000) [SX.vc, SX.stop, SX.contS, SX.contB, SX.contW, SX.contR, SX.contD, SX.sxStep, SX.stepPure, SX.stepNew, SX.stepStore, SX.stepKeep, SX.guardIx, SX.evOp, SX.opd, SX.opds, SX.optOpd, SX.look, SX.putS, SX.gobs, SX.AllP, SX.leave, SX.lookC, SX.lookB, SX.lookT, SX.lookN, SX.findK, SX.evBuiltin, SX.ints, SX.foldI, SX.evBin, SX.evInt, SX.evStr, SX.evEq, SX.arith, SX.evLoad, SX.shapeUp, SX.evFieldAddr, SX.evField, SX.evIndexAddr, SX.evIndex, SX.evFill, SX.evBuild, SX.szs, SX.cellsV, SX.evNew, SX.evStore, SX.spliceL, SX.SV.cells, SX.evConv, SX.evSlice, SX.bnd, SX.evNil, SX.evUn, SX.evPick, SX.pickOpd, SX.popTo, SX.cnd, SX.env0, SX.TD.isAgg, SX.TD.isIface, SX.tails, SX.NotAgg, SX.evLookup, SX.evConvH, SX.evPtrEq, SX.isCells, SX.thaw, SX.frz, SX.fixB, SX.rootIx, SX.Froz, SX.frzStep, SX.fork, Go.Value.cells, Go.undef, cfg36, hc, hf, hft]
  refine ⟨by (unfold SX.Ob; first | trivial | omega | ((try simp only [SX.inK]); (try simp [SX.den, SX.IsU8, SX.AllP, *]); (try omega))), ?_⟩
  intro a3 w3 hr3 _
  refine post_call 34 [.v (.slice ad L.length cp)] hr3 (by first | exact wanted_none rfl | exact wanted_zero (hr3.env.same rfl rfl rfl rfl) rfl (by simp)) rfl (callable 34 Try.func34) (end_ok w3 _ L (hL.below hr3.keeps.toBelow) hC.ne (by omega)) ?_
  rintro e4 w4 ⟨rfl, hb4⟩
  refine ⟨_, rfl, ?_⟩
  have h4 := hr3.ret hb4 26 (.v (.int .i64 (endS 0 L))) rfl _ (hr3.all.below hb4) (by simp) rfl
  by_cases ht : endS 0 L < t
  · obtain ⟨hE, hG⟩ := bad fun h => by have := h.2.2.2; omega
    refine seg cfg36_ok mixed PanicFree.body 1000 [true] [(14, false), (18, false), (23, false)] h4 (by first | trivial | exact HpRep.nil | assumption) (by kernel_rfl) fun s_ hs_ => ?_
    simp (maxSteps := 10000000) [SX.vc, SX.stop, SX.contS, SX.contB, SX.contW, SX.contR, SX.contD, SX.sxStep, SX.stepPure, SX.stepNew, SX.stepStore, SX.stepKeep, SX.guardIx, SX.evOp, SX.opd, SX.opds, SX.optOpd, SX.look, SX.putS, SX.gobs, SX.AllP, SX.leave, SX.lookC, SX.lookB, SX.lookT, SX.lookN, SX.findK, SX.evBuiltin, SX.ints, SX.foldI, SX.evBin, SX.evInt, SX.evStr, SX.evEq, SX.arith, SX.evLoad, SX.shapeUp, SX.evFieldAddr, SX.evField, SX.evIndexAddr, SX.evIndex, SX.evFill, SX.evBuild, SX.szs, SX.cellsV, SX.evNew, SX.evStore, SX.spliceL, SX.SV.cells, SX.evConv, SX.evSlice, SX.bnd, SX.evNil, SX.evUn, SX.evPick, SX.pickOpd, SX.popTo, SX.cnd, SX.env0, SX.TD.isAgg, SX.TD.isIface, SX.tails, SX.NotAgg, SX.evLookup, SX.evConvH, SX.evPtrEq, SX.isCells, SX.thaw, SX.frz, SX.fixB, SX.rootIx, SX.Froz, SX.frzStep, SX.fork, Go.Value.cells, Go.undef, cfg36, ht]
    refine ⟨by (unfold SX.Ob; first | trivial | omega | ((try simp only [SX.inK]); (try simp [SX.den, SX.IsU8, SX.AllP, *]); (try omega))), ?_⟩
    intro a5 w5 hr5 _
    exact post_retn (end2 hr5 rfl rfl rfl ⟨.slice none 0 0, by rw [hE]; simp [den, denL], by rw [hG]; exact OwS.nil, hr5.keeps.toBelow⟩).1
  have hW : Within L f t := ⟨hC, by omega, by omega, by omega⟩
  have hE : partE L f t = 0 := if_pos hW
  have hG : partL L f t = partS f t L := if_pos hW
  refine seg cfg36_ok mixed PanicFree.body 1000 [false] [(14, false), (18, false), (23, false)] h4 (by first | trivial | exact HpRep.nil | assumption) (by kernel_rfl) fun s_ hs_ => ?_
  simp (maxSteps := 10000000) [SX.vc, SX.stop, SX.contS, SX.contB, SX.contW, SX.contR, SX.contD, SX.sxStep, SX.stepPure, SX.stepNew, SX.stepStore, SX.stepKeep, SX.guardIx, SX.evOp, SX.opd, SX.opds, SX.optOpd, SX.look, SX.putS, SX.gobs, SX.AllP, SX.leave, SX.lookC, SX.lookB, SX.lookT, SX.lookN, SX.findK, SX.evBuiltin, SX.ints, SX.foldI, SX.evBin, SX.evInt, SX.evStr, SX.evEq, SX.arith, SX.evLoad, SX.shapeUp, SX.evFieldAddr, SX.evField, SX.evIndexAddr, SX.evIndex, SX.evFill, SX.evBuild, SX.szs, SX.cellsV, SX.evNew, SX.evStore, SX.spliceL, SX.SV.cells, SX.evConv, SX.evSlice, SX.bnd, SX.evNil, SX.evUn, SX.evPick, SX.pickOpd, SX.popTo, SX.cnd, SX.env0, SX.TD.isAgg, SX.TD.isIface, SX.tails, SX.NotAgg, SX.evLookup, SX.evConvH, SX.evPtrEq, SX.isCells, SX.thaw, SX.frz, SX.fixB, SX.rootIx, SX.Froz, SX.frzStep, SX.fork, Go.Value.cells, Go.undef, cfg36, ht]
  refine ⟨by (unfold SX.Ob; first | trivial | omega | ((try simp only [SX.inK]); (try simp [SX.den, SX.IsU8, SX.AllP, *]); (try omega))), ?_⟩
  intro a5 w5 hr5 _
  refine post_loop (PtLoop w (.slice ad L.length cp) L f t) L.length ⟨0, [], .slice none 0 0, rfl, by omega, rfl, by simp, OwS.nil, hr5.re (by simp [envTo, SX.look]) trivial rfl rfl⟩ ?_
  rintro m a6 w6 ⟨k, out, v', rfl, hk, hj, hol, hO, hr6⟩
  by_cases hlt : k < L.length
  · obtain ⟨b, o0, cap, u, fz, hP, hv, hrep⟩ := hL.opn hlt
    cases hv
    have hrep2 := SO.rep_same hrep (hr6.keeps.toBelow.block _ (SO.rep_lt hrep))
    obtain ⟨x, hx⟩ : ∃ x, nth spn0 L k = x := ⟨_, rfl⟩
    rw [drop_nth (d := spn0) hlt, hx, partS, ← List.append_assoc] at hj
    obtain ⟨p, hp⟩ : ∃ p, (if x.fr < f then f else x.fr) = p := ⟨_, rfl⟩
    obtain ⟨q, hq⟩ : ∃ q, (if t < x.to then t else x.to) = q := ⟨_, rfl⟩
    have hcl : clipS f t x = { x with fr := p, to := q } := by rw [clipS, hp, hq]
    rw [hcl] at hj
    have h7 := (hr6.top 29 (.sl 0 b o0 0 L.length cp 4) rfl (by simp [den])).see _ (HpAll.one hrep2)
    by_cases hpq : p < q
    · rw [if_pos (show ({ x with fr := p, to := q } : Spn).fr < ({ x with fr := p, to := q } : Spn).to from hpq)] at hj
      refine seg cfg36_ok mixed PanicFree.body 1000 [true, true] [] h7.rebase (by first | trivial | exact HpRep.nil | assumption) (by kernel_rfl) fun s_ hs_ => ?_
      simp (maxSteps := 10000000) [SX.vc, SX.stop, SX.contS, SX.contB, SX.contW, SX.contR, SX.contD, SX.sxStep, SX.stepPure, SX.stepNew, SX.stepStore, SX.stepKeep, SX.guardIx, SX.evOp, SX.opd, SX.opds, SX.optOpd, SX.look, SX.putS, SX.gobs, SX.AllP, SX.leave, SX.lookC, SX.lookB, SX.lookT, SX.lookN, SX.findK, SX.evBuiltin, SX.ints, SX.foldI, SX.evBin, SX.evInt, SX.evStr, SX.evEq, SX.arith, SX.evLoad, SX.shapeUp, SX.evFieldAddr, SX.evField, SX.evIndexAddr, SX.evIndex, SX.evFill, SX.evBuild, SX.szs, SX.cellsV, SX.evNew, SX.evStore, SX.spliceL, SX.SV.cells, SX.evConv, SX.evSlice, SX.bnd, SX.evNil, SX.evUn, SX.evPick, SX.pickOpd, SX.popTo, SX.cnd, SX.env0, SX.TD.isAgg, SX.TD.isIface, SX.tails, SX.NotAgg, SX.evLookup, SX.evConvH, SX.evPtrEq, SX.isCells, SX.thaw, SX.frz, SX.fixB, SX.rootIx, SX.Froz, SX.frzStep, SX.fork, Go.Value.cells, Go.undef, cfg36, spnC, hx, hp, hq, hpq]
      refine ⟨by (unfold SX.Ob; first | trivial | omega | ((try simp only [SX.inK]); (try simp [SX.den, SX.IsU8, SX.AllP, *]); (try omega))), ?_⟩
      intro a8 w8 hr8' _
      have hr8 := h7.unbase hr8'
      have z8 : w.heap.size ≤ w8.heap.size := hr8.keeps.size
      have hO8 := hO.keep hr8'.keeps (by have := hr6.keeps.size; simp [frameAt, mutB])
      refine post_app (C := cfg36) cfg36_ok hr8 (by first | exact wanted_none rfl | exact wanted_zero (hr8.env.same rfl rfl rfl rfl) rfl (by simp)) rfl (by simp) rfl rfl rfl rfl rfl rfl rfl rfl rfl (by decide) (flatS _) (by (try simp only [List.length_append, List.length_cons, List.length_nil, List.length_map, List.length_take]); omega) (fun x hx => Nat.le_trans z8 hx) hO8 (RdS.lit (x := { x with fr := p, to := q }) hr8.all.2.2.1.1 (by simp [spnC])) [] (fun _ _ _ _ => trivial) (fun x hx => .inl hx) fun V9 a9 w9 B9 hO9 hB9 hk9 hr9 => ?_
      refine seg cfg36_ok mixed PanicFree.body 1000 [] [] hr9.rebase (by first | trivial | exact HpRep.nil | assumption) (by kernel_rfl) fun s_ hs_ => ?_
      simp (maxSteps := 10000000) [SX.vc, SX.stop, SX.contS, SX.contB, SX.contW, SX.contR, SX.contD, SX.sxStep, SX.stepPure, SX.stepNew, SX.stepStore, SX.stepKeep, SX.guardIx, SX.evOp, SX.opd, SX.opds, SX.optOpd, SX.look, SX.putS, SX.gobs, SX.AllP, SX.leave, SX.lookC, SX.lookB, SX.lookT, SX.lookN, SX.findK, SX.evBuiltin, SX.ints, SX.foldI, SX.evBin, SX.evInt, SX.evStr, SX.evEq, SX.arith, SX.evLoad, SX.shapeUp, SX.evFieldAddr, SX.evField, SX.evIndexAddr, SX.evIndex, SX.evFill, SX.evBuild, SX.szs, SX.cellsV, SX.evNew, SX.evStore, SX.spliceL, SX.SV.cells, SX.evConv, SX.evSlice, SX.bnd, SX.evNil, SX.evUn, SX.evPick, SX.pickOpd, SX.popTo, SX.cnd, SX.env0, SX.TD.isAgg, SX.TD.isIface, SX.tails, SX.NotAgg, SX.evLookup, SX.evConvH, SX.evPtrEq, SX.isCells, SX.thaw, SX.frz, SX.fixB, SX.rootIx, SX.Froz, SX.frzStep, SX.fork, Go.Value.cells, Go.undef, cfg36]
      refine ⟨by (unfold SX.Ob; first | trivial | omega | ((try simp only [SX.inK]); (try simp [SX.den, SX.IsU8, SX.AllP, *]); (try omega))), ?_⟩
      intro a10 w10 hr10' _
      have hr10 := hr9.unbase hr10'
      exact post_rnd (L.length - (k + 1)) (by omega) ⟨k + 1, _, V9, rfl, by omega, hj, by simp; omega, hO9.keep hr10'.keeps (by simp [frameAt, mutB]), hr10.re (by simp [envTo, SX.look, den]) trivial rfl rfl⟩
    · rw [if_neg (show ¬ ({ x with fr := p, to := q } : Spn).fr < ({ x with fr := p, to := q } : Spn).to from hpq), List.append_nil] at hj
      refine seg cfg36_ok mixed PanicFree.body 1000 [true, false] [] h7.rebase (by first | trivial | exact HpRep.nil | assumption) (by kernel_rfl) fun s_ hs_ => ?_
      simp (maxSteps := 10000000) [SX.vc, SX.stop, SX.contS, SX.contB, SX.contW, SX.contR, SX.contD, SX.sxStep, SX.stepPure, SX.stepNew, SX.stepStore, SX.stepKeep, SX.guardIx, SX.evOp, SX.opd, SX.opds, SX.optOpd, SX.look, SX.putS, SX.gobs, SX.AllP, SX.leave, SX.lookC, SX.lookB, SX.lookT, SX.lookN, SX.findK, SX.evBuiltin, SX.ints, SX.foldI, SX.evBin, SX.evInt, SX.evStr, SX.evEq, SX.arith, SX.evLoad, SX.shapeUp, SX.evFieldAddr, SX.evField, SX.evIndexAddr, SX.evIndex, SX.evFill, SX.evBuild, SX.szs, SX.cellsV, SX.evNew, SX.evStore, SX.spliceL, SX.SV.cells, SX.evConv, SX.evSlice, SX.bnd, SX.evNil, SX.evUn, SX.evPick, SX.pickOpd, SX.popTo, SX.cnd, SX.env0, SX.TD.isAgg, SX.TD.isIface, SX.tails, SX.NotAgg, SX.evLookup, SX.evConvH, SX.evPtrEq, SX.isCells, SX.thaw, SX.frz, SX.fixB, SX.rootIx, SX.Froz, SX.frzStep, SX.fork, Go.Value.cells, Go.undef, cfg36, spnC, hx, hp, hq, hpq]
      refine ⟨by (unfold SX.Ob; first | trivial | omega | ((try simp only [SX.inK]); (try simp [SX.den, SX.IsU8, SX.AllP, *]); (try omega))), ?_⟩
      intro a8 w8 hr8' _
      have hr8 := h7.unbase hr8'
      exact post_rnd (L.length - (k + 1)) (by omega) ⟨k + 1, out, v', rfl, by omega, hj, by omega, hO.keep hr8'.keeps (by simp [frameAt, mutB]), hr8.re (by simp [envTo, SX.look, den]) trivial rfl rfl⟩
  · obtain rfl : k = L.length := by omega
    refine seg cfg36_ok mixed PanicFree.body 1000 [false] [] hr6.rebase (by first | trivial | exact HpRep.nil | assumption) (by kernel_rfl) fun s_ hs_ => ?_
    simp (maxSteps := 10000000) [SX.vc, SX.stop, SX.contS, SX.contB, SX.contW, SX.contR, SX.contD, SX.sxStep, SX.stepPure, SX.stepNew, SX.stepStore, SX.stepKeep, SX.guardIx, SX.evOp, SX.opd, SX.opds, SX.optOpd, SX.look, SX.putS, SX.gobs, SX.AllP, SX.leave, SX.lookC, SX.lookB, SX.lookT, SX.lookN, SX.findK, SX.evBuiltin, SX.ints, SX.foldI, SX.evBin, SX.evInt, SX.evStr, SX.evEq, SX.arith, SX.evLoad, SX.shapeUp, SX.evFieldAddr, SX.evField, SX.evIndexAddr, SX.evIndex, SX.evFill, SX.evBuild, SX.szs, SX.cellsV, SX.evNew, SX.evStore, SX.spliceL, SX.SV.cells, SX.evConv, SX.evSlice, SX.bnd, SX.evNil, SX.evUn, SX.evPick, SX.pickOpd, SX.popTo, SX.cnd, SX.env0, SX.TD.isAgg, SX.TD.isIface, SX.tails, SX.NotAgg, SX.evLookup, SX.evConvH, SX.evPtrEq, SX.isCells, SX.thaw, SX.frz, SX.fixB, SX.rootIx, SX.Froz, SX.frzStep, SX.fork, Go.Value.cells, Go.undef, cfg36]
    refine ⟨by (unfold SX.Ob; first | trivial | omega | ((try simp only [SX.inK]); (try simp [SX.den, SX.IsU8, SX.AllP, *]); (try omega))), ?_⟩
    intro a8 w8 hr8' _
    have hr8 := hr6.unbase hr8'
    refine post_retn (end2 hr8 rfl rfl rfl ⟨v', by rw [hE]; simp [den, denL], ?_, hr8.keeps.toBelow⟩).1
    rw [hG, ← hj, List.drop_length, partS, List.append_nil]
    exact hO.keep hr8'.keeps (by simp [frameAt, mutB])
end Go.Proofs
