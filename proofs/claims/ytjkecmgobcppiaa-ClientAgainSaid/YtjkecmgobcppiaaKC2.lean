/- The client: DeleteFunc over one that is over, with Last's closure. -/
import Derived.Test.YtjkecmgobcppiaaKB2
import Derived.Test.YtjkecmgobcppiaaSxN
namespace Go.Proofs
set_option linter.unusedVariables false
set_option linter.unusedSimpArgs false
open Go Go.SX Go.RowKit

set_option maxRecDepth 100000 in
set_option maxHeartbeats 4000000 in
/-- It is asked for: it stays. -/
theorem del_keep (w : World) (f : Fin11) (b cap mb : Nat) (u : TypeId) (v : Value) (x : Int) (hd : ∃ a n c, f.data = .slice a n c) (hf : (SO.arr 0 1 (fun _ => finC f) 11 u (0, 0)).rep w b) (hm : (SO.cells [.v v] 33).rep w mb) (hne : b ≠ mb) (hs : ∃ a c, v = .slice a 1 c) (hv : Ints w v 1 (fun _ => x)) (hx : f.id = x) :
    Calls Try.prog 29 (denL [.sl 0 b 0 0 1 cap 11, .fn (.func 30) [] [.ptr 1 mb 0]]).toArray w fun e w' => e = .returned (den (.sl 0 b 0 0 1 cap 11)) ∧ Below w.heap.size w w' := by
  have hE : HpAll (frame0 w) w [(b, false, .arr 0 1 (fun _ => finC f) 11 u (0, 0)), (mb, false, .cells [.v v] 33)] := ⟨⟨hf, by simp, by simpa using hne⟩, ⟨hm, by simp, by simp⟩, trivial⟩
  refine enter (F := frame0 w) Try.func29 rfl [.sl 0 b 0 0 1 cap 11, .fn (.func 30) [] [.ptr 1 mb 0]] _ (by simp [Try.f29]) hE (keeps0 w) fun a hr => ?_
  refine seg cfg29_ok mixed PanicFree.body 1000 [] [] hr (by first | trivial | exact HpRep.nil | assumption) (by kernel_rfl) fun s_ hs_ => ?_
  simp (maxSteps := 10000000) [SX.vc, SX.stop, SX.contS, SX.contB, SX.contW, SX.contR, SX.contD, SX.sxStep, SX.stepPure, SX.stepNew, SX.stepStore, SX.stepKeep, SX.guardIx, SX.evOp, SX.opd, SX.opds, SX.optOpd, SX.look, SX.putS, SX.gobs, SX.AllP, SX.leave, SX.lookC, SX.lookB, SX.lookT, SX.lookN, SX.findK, SX.evBuiltin, SX.ints, SX.foldI, SX.evBin, SX.evInt, SX.evStr, SX.evEq, SX.arith, SX.evLoad, SX.shapeUp, SX.evFieldAddr, SX.evField, SX.evIndexAddr, SX.evIndex, SX.evFill, SX.evBuild, SX.szs, SX.cellsV, SX.evNew, SX.evStore, SX.spliceL, SX.SV.cells, SX.evConv, SX.evSlice, SX.bnd, SX.evNil, SX.evUn, SX.evPick, SX.pickOpd, SX.popTo, SX.cnd, SX.env0, SX.TD.isAgg, SX.TD.isIface, SX.tails, SX.NotAgg, SX.evLookup, SX.evConvH, SX.evPtrEq, SX.isCells, SX.thaw, SX.frz, SX.fixB, SX.rootIx, SX.Froz, SX.frzStep, SX.fork, Go.Value.cells, Go.undef, cfg29, Try.f29]
  refine ⟨by (unfold SX.Ob; first | trivial | omega | ((try simp only [SX.inK]); (try simp [SX.den, SX.IsU8, *]); (try omega))), ?_⟩
  intro a1 w1 hr1 _
  have hI : Calls Try.prog 32 (denL [.sl 0 b 0 0 1 cap 11, .fn (.func 30) [] [.ptr 1 mb 0]]).toArray w1 fun e w' => e = .returned (.int .i64 (if f.id = x then -1 else 0)) ∧ Below w1.heap.size w1 w' :=
    ix_ok w1 f b cap mb u v x hd hr1.all.1.1 hr1.all.2.1.1 hne hs (hv.keep hr1.keeps.toBelow)
  rw [if_pos hx] at hI
  refine post_call 32 [.sl 0 b 0 0 1 cap 11, .fn (.func 30) [] [.ptr 1 mb 0]] hr1 (by first | exact wanted_none rfl | exact wanted_zero (hr1.env.same rfl rfl rfl rfl) rfl (by simp)) rfl (callable 32 Try.func32) (hI) ?_
  rintro e w2 ⟨rfl, hb2⟩
  refine ⟨_, rfl, ?_⟩
  have h2 := hr1.ret hb2 10 (.v (.int .i64 (-1))) rfl _ (hr1.all.below hb2) (by simp) rfl
  refine seg cfg29_ok mixed PanicFree.body 1000 [true] [] h2 (by first | trivial | exact HpRep.nil | assumption) (by kernel_rfl) fun s_ hs_ => ?_
  simp (maxSteps := 10000000) [SX.vc, SX.stop, SX.contS, SX.contB, SX.contW, SX.contR, SX.contD, SX.sxStep, SX.stepPure, SX.stepNew, SX.stepStore, SX.stepKeep, SX.guardIx, SX.evOp, SX.opd, SX.opds, SX.optOpd, SX.look, SX.putS, SX.gobs, SX.AllP, SX.leave, SX.lookC, SX.lookB, SX.lookT, SX.lookN, SX.findK, SX.evBuiltin, SX.ints, SX.foldI, SX.evBin, SX.evInt, SX.evStr, SX.evEq, SX.arith, SX.evLoad, SX.shapeUp, SX.evFieldAddr, SX.evField, SX.evIndexAddr, SX.evIndex, SX.evFill, SX.evBuild, SX.szs, SX.cellsV, SX.evNew, SX.evStore, SX.spliceL, SX.SV.cells, SX.evConv, SX.evSlice, SX.bnd, SX.evNil, SX.evUn, SX.evPick, SX.pickOpd, SX.popTo, SX.cnd, SX.env0, SX.TD.isAgg, SX.TD.isIface, SX.tails, SX.NotAgg, SX.evLookup, SX.evConvH, SX.evPtrEq, SX.isCells, SX.thaw, SX.frz, SX.fixB, SX.rootIx, SX.Froz, SX.frzStep, SX.fork, Go.Value.cells, Go.undef, cfg29]
  refine ⟨by (unfold SX.Ob; first | trivial | omega | ((try simp only [SX.inK]); (try simp [SX.den, SX.IsU8, *]); (try omega))), ?_⟩
  intro a3 w3 hr3 _
  exact post_retn (end1 hr3 rfl rfl ⟨rfl, hr3.keeps.toBelow⟩).1

def DelLoop (F : Fr) (b cap mb : Nat) (f : Fin11) (u : TypeId) (v : Value) (m : Nat) (a : Act) (w' : World) : Prop :=
  m = 0 ∧ RepX F ⟨[(0, 0, .sl 0 b 0 0 1 cap 11), (1, 0, .fn (.func 30) [] [.ptr 1 mb 0]), (5, 0, .v (.int .i64 0)), (6, 0, .v (.int .i64 1))], [(b, true, .arr 0 1 (fun _ => finC f) 11 u (0, 0)), (mb, false, .cells [.v v] 33)], 0, 0, 42, [], [], []⟩ a w'

set_option maxRecDepth 100000 in
set_option maxHeartbeats 4000000 in
/-- It is not: none is left. -/
theorem del_out (w : World) (f : Fin11) (b cap mb : Nat) (u : TypeId) (v : Value) (x : Int) (hd : ∃ a n c, f.data = .slice a n c) (hf : (SO.arr 0 1 (fun _ => finC f) 11 u (0, 0)).rep w b) (hm : (SO.cells [.v v] 33).rep w mb) (hne : b ≠ mb) (hs : ∃ a c, v = .slice a 1 c) (hv : Ints w v 1 (fun _ => x)) (hx : f.id ≠ x) (hcap : 1 ≤ cap) (hvb : ∀ y o n c, v = .slice (some ⟨y, o, none⟩) n c → y ≠ b) :
    Calls Try.prog 29 (denL [.sl 0 b 0 0 1 cap 11, .fn (.func 30) [] [.ptr 1 mb 0]]).toArray w fun e w' => e = .returned (den (.sl 0 b 0 0 0 cap 11)) ∧ KeepsTo w [b] w' := by
  have hE : HpAll ⟨w, w.heap.size, [b]⟩ w [(b, true, .arr 0 1 (fun _ => finC f) 11 u (0, 0)), (mb, false, .cells [.v v] 33)] := ⟨⟨hf, by simp, by simpa using hne⟩, ⟨hm, by simp, by simp⟩, trivial⟩
  refine enter (F := ⟨w, w.heap.size, [b]⟩) Try.func29 rfl [.sl 0 b 0 0 1 cap 11, .fn (.func 30) [] [.ptr 1 mb 0]] _ (by simp [Try.f29]) hE (KeepsTo.refl w [b]) fun a hr => ?_
  refine seg cfg29_ok mixed PanicFree.body 1000 [] [] hr.rebase (by first | trivial | exact HpRep.nil | assumption) (by kernel_rfl) fun s_ hs_ => ?_
  simp (maxSteps := 10000000) [SX.vc, SX.stop, SX.contS, SX.contB, SX.contW, SX.contR, SX.contD, SX.sxStep, SX.stepPure, SX.stepNew, SX.stepStore, SX.stepKeep, SX.guardIx, SX.evOp, SX.opd, SX.opds, SX.optOpd, SX.look, SX.putS, SX.gobs, SX.AllP, SX.leave, SX.lookC, SX.lookB, SX.lookT, SX.lookN, SX.findK, SX.evBuiltin, SX.ints, SX.foldI, SX.evBin, SX.evInt, SX.evStr, SX.evEq, SX.arith, SX.evLoad, SX.shapeUp, SX.evFieldAddr, SX.evField, SX.evIndexAddr, SX.evIndex, SX.evFill, SX.evBuild, SX.szs, SX.cellsV, SX.evNew, SX.evStore, SX.spliceL, SX.SV.cells, SX.evConv, SX.evSlice, SX.bnd, SX.evNil, SX.evUn, SX.evPick, SX.pickOpd, SX.popTo, SX.cnd, SX.env0, SX.TD.isAgg, SX.TD.isIface, SX.tails, SX.NotAgg, SX.evLookup, SX.evConvH, SX.evPtrEq, SX.isCells, SX.thaw, SX.frz, SX.fixB, SX.rootIx, SX.Froz, SX.frzStep, SX.fork, Go.Value.cells, Go.undef, cfg29, Try.f29]
  refine ⟨by (unfold SX.Ob; first | trivial | omega | ((try simp only [SX.inK]); (try simp [SX.den, SX.IsU8, *]); (try omega))), ?_⟩
  intro a1 w1 hr1' _
  have hr1 := hr.unbase hr1'
  have hI : Calls Try.prog 32 (denL [.sl 0 b 0 0 1 cap 11, .fn (.func 30) [] [.ptr 1 mb 0]]).toArray w1 fun e w' => e = .returned (.int .i64 (if f.id = x then -1 else 0)) ∧ Below w1.heap.size w1 w' := by
    refine ix_ok w1 f b cap mb u v x hd hr1.all.1.1 hr1.all.2.1.1 hne hs ?_
    have hk : KeepsTo w [b] w1 := hr1.keeps
    rcases hv with h | ⟨h0, vb, o0, N, vc, vu, fz, h1, h2, h3⟩
    · exact .inl h
    · exact .inr ⟨h0, vb, o0, N, vc, vu, fz, h1, h2, hk.same h3 (by simpa using hvb _ _ _ _ h1)⟩
  rw [if_neg hx] at hI
  refine post_call 32 [.sl 0 b 0 0 1 cap 11, .fn (.func 30) [] [.ptr 1 mb 0]] hr1 (by first | exact wanted_none rfl | exact wanted_zero (hr1.env.same rfl rfl rfl rfl) rfl (by simp)) rfl (callable 32 Try.func32) (hI) ?_
  rintro e w2 ⟨rfl, hb2⟩
  refine ⟨_, rfl, ?_⟩
  have h2 := hr1.ret hb2 10 (.v (.int .i64 0)) rfl _ (hr1.all.below hb2) (by simp) rfl
  refine seg cfg29_ok mixed PanicFree.body 1000 [false] [] h2 (by first | trivial | exact HpRep.nil | assumption) (by kernel_rfl) fun s_ hs_ => ?_
  simp (maxSteps := 10000000) [SX.vc, SX.stop, SX.contS, SX.contB, SX.contW, SX.contR, SX.contD, SX.sxStep, SX.stepPure, SX.stepNew, SX.stepStore, SX.stepKeep, SX.guardIx, SX.evOp, SX.opd, SX.opds, SX.optOpd, SX.look, SX.putS, SX.gobs, SX.AllP, SX.leave, SX.lookC, SX.lookB, SX.lookT, SX.lookN, SX.findK, SX.evBuiltin, SX.ints, SX.foldI, SX.evBin, SX.evInt, SX.evStr, SX.evEq, SX.arith, SX.evLoad, SX.shapeUp, SX.evFieldAddr, SX.evField, SX.evIndexAddr, SX.evIndex, SX.evFill, SX.evBuild, SX.szs, SX.cellsV, SX.evNew, SX.evStore, SX.spliceL, SX.SV.cells, SX.evConv, SX.evSlice, SX.bnd, SX.evNil, SX.evUn, SX.evPick, SX.pickOpd, SX.popTo, SX.cnd, SX.env0, SX.TD.isAgg, SX.TD.isIface, SX.tails, SX.NotAgg, SX.evLookup, SX.evConvH, SX.evPtrEq, SX.isCells, SX.thaw, SX.frz, SX.fixB, SX.rootIx, SX.Froz, SX.frzStep, SX.fork, Go.Value.cells, Go.undef, cfg29]
  refine ⟨by (unfold SX.Ob; first | trivial | omega | ((try simp only [SX.inK]); (try simp [SX.den, SX.IsU8, *]); (try omega))), ?_⟩
  intro a3 w3 hr3 _
  refine post_loop (DelLoop ⟨w, w.heap.size, [b]⟩ b cap mb f u v) 0 ⟨rfl, hr3.re (by simp [envTo, SX.look]) hr3.all rfl rfl⟩ ?_
  rintro m a4 w4 ⟨rfl, hr4⟩
  refine seg cfg29_ok mixed PanicFree.body 1000 [false] [] hr4 (by first | trivial | exact HpRep.nil | assumption) (by kernel_rfl) fun s_ hs_ => ?_
  simp (maxSteps := 10000000) [SX.vc, SX.stop, SX.contS, SX.contB, SX.contW, SX.contR, SX.contD, SX.sxStep, SX.stepPure, SX.stepNew, SX.stepStore, SX.stepKeep, SX.guardIx, SX.evOp, SX.opd, SX.opds, SX.optOpd, SX.look, SX.putS, SX.gobs, SX.AllP, SX.leave, SX.lookC, SX.lookB, SX.lookT, SX.lookN, SX.findK, SX.evBuiltin, SX.ints, SX.foldI, SX.evBin, SX.evInt, SX.evStr, SX.evEq, SX.arith, SX.evLoad, SX.shapeUp, SX.evFieldAddr, SX.evField, SX.evIndexAddr, SX.evIndex, SX.evFill, SX.evBuild, SX.szs, SX.cellsV, SX.evNew, SX.evStore, SX.spliceL, SX.SV.cells, SX.evConv, SX.evSlice, SX.bnd, SX.evNil, SX.evUn, SX.evPick, SX.pickOpd, SX.popTo, SX.cnd, SX.env0, SX.TD.isAgg, SX.TD.isIface, SX.tails, SX.NotAgg, SX.evLookup, SX.evConvH, SX.evPtrEq, SX.isCells, SX.thaw, SX.frz, SX.fixB, SX.rootIx, SX.Froz, SX.frzStep, SX.fork, Go.Value.cells, Go.undef, cfg29]
  refine ⟨by (unfold SX.Ob; first | trivial | omega | ((try simp only [SX.inK]); (try simp [SX.den, SX.IsU8, *]); (try omega))), ?_⟩
  intro a5 w5 hr5 _
  refine post_clear (C := cfg29) cfg29_ok hr5 rfl rfl rfl rfl rfl rfl rfl rfl rfl rfl rfl (by simp) fun a6 w6 hr6 => ?_
  refine seg cfg29_ok mixed PanicFree.body 1000 [] [] hr6 (by first | trivial | exact HpRep.nil | assumption) (by kernel_rfl) fun s_ hs_ => ?_
  simp (maxSteps := 10000000) [SX.vc, SX.stop, SX.contS, SX.contB, SX.contW, SX.contR, SX.contD, SX.sxStep, SX.stepPure, SX.stepNew, SX.stepStore, SX.stepKeep, SX.guardIx, SX.evOp, SX.opd, SX.opds, SX.optOpd, SX.look, SX.putS, SX.gobs, SX.AllP, SX.leave, SX.lookC, SX.lookB, SX.lookT, SX.lookN, SX.findK, SX.evBuiltin, SX.ints, SX.foldI, SX.evBin, SX.evInt, SX.evStr, SX.evEq, SX.arith, SX.evLoad, SX.shapeUp, SX.evFieldAddr, SX.evField, SX.evIndexAddr, SX.evIndex, SX.evFill, SX.evBuild, SX.szs, SX.cellsV, SX.evNew, SX.evStore, SX.spliceL, SX.SV.cells, SX.evConv, SX.evSlice, SX.bnd, SX.evNil, SX.evUn, SX.evPick, SX.pickOpd, SX.popTo, SX.cnd, SX.env0, SX.TD.isAgg, SX.TD.isIface, SX.tails, SX.NotAgg, SX.evLookup, SX.evConvH, SX.evPtrEq, SX.isCells, SX.thaw, SX.frz, SX.fixB, SX.rootIx, SX.Froz, SX.frzStep, SX.fork, Go.Value.cells, Go.undef, cfg29]
  refine ⟨by (unfold SX.Ob; first | trivial | omega | ((try simp only [SX.inK]); (try simp [SX.den, SX.IsU8, *]); (try omega))), ?_⟩
  intro a7 w7 hr7 _
  exact post_retn (end1 hr7 rfl rfl ⟨by simp [den], hr7.keeps⟩).1
end Go.Proofs
