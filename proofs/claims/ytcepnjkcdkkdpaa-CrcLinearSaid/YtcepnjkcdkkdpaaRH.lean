/- The table goes on with bytes. -/
import Derived.Test.YtcepnjkcdkkdpaaRG
import Derived.Test.YtcepnjkcdkkdpaaSxC
namespace Go.Proofs
set_option linter.unusedVariables false
set_option linter.unusedSimpArgs false
open Go Go.SX Go.RowKit Go.Crc

def TabRep (w : World) (b : Nat) (u : Int) : Prop := ∃ d T, (d = 0 ∨ d = 1) ∧ (d = 1 → T = tabI) ∧ (SO.cells (tabC d 0 T u) 55).rep w b

/-- Bytes, not of block b. -/
def BV (b : Nat) (w : World) (v : Value) (n : Nat) (g : Nat → BitVec 8) : Prop :=
  (n = 0 ∧ ∃ a cap, v = .slice a 0 cap) ∨
  (0 < n ∧ ∃ bb o0 N cap u fz, bb ≠ b ∧ v = .slice (some ⟨bb, o0, none⟩) n cap ∧ n ≤ N ∧ (SO.arr o0 N (fun j => [.v (.int .u8 (bv (g j)))]) 1 u fz).rep w bb)

theorem BV.keep {b : Nat} {w w' : World} {v : Value} {n : Nat} {g : Nat → BitVec 8} (h : BV b w v n g) (hk : KeepsTo w [b] w') : BV b w' v n g := by
  rcases h with h | ⟨h0, bb, o0, N, cap, u, fz, h1, h2, h3, h4⟩
  · exact .inl h
  · exact .inr ⟨h0, bb, o0, N, cap, u, fz, h1, h2, h3, hk.same h4 (by simpa using h1)⟩

theorem vsh8 (a : BitVec 32) : (rv a).fdiv (2 ^ min 8 IntKind.u32.bits) = rv (a >>> 8) := vsh a 8 (by omega)

def GoNil (w : World) (b : Nat) (u : Int) (r : BitVec 32) (m : Nat) (a : Act) (w' : World) : Prop :=
  m = 0 ∧ RepX ⟨w, w.heap.size, [b]⟩ ⟨[(17, 0, .v (.int .i64 0)), (16, 0, .v (.int .i64 0)), (1, 0, .v (.int .u32 (rv r)))], [(b, false, .cells (tabC 1 0 tabI u) 55)], 0, 0, 35, [], [], []⟩ a w'

def GoLoop (w : World) (b : Nat) (u : Int) (r : BitVec 32) (g : Nat → BitVec 8) (n bb o0 N cap : Nat) (t : TypeId) (fz : Nat × Nat) (m : Nat) (a : Act) (w' : World) : Prop :=
  ∃ k : Nat, m = n - k ∧ k ≤ n ∧ RepX ⟨w, w.heap.size, [b]⟩ ⟨[(17, 0, .v (.int .i64 k)), (16, 0, .v (.int .i64 n)), (15, 0, .sl 1 bb o0 0 n cap 1), (1, 0, .v (.int .u32 (rv (go r g k)))), (0, 0, .ptr 0 b 0)],
    [(b, false, .cells (tabC 1 0 tabI u) 55), (bb, false, .arr o0 N (fun j => [.v (.int .u8 (bv (g j)))]) 1 t fz)], 0, 0, 35, [], [], []⟩ a w'

def GoPost (w : World) (b : Nat) (u : Int) (r : BitVec 32) (e : Ending) (w' : World) : Prop := e = .returned (.int .u32 (rv r)) ∧ KeepsTo w [b] w' ∧ (SO.cells (tabC 1 0 tabI u) 55).rep w' b

set_option maxRecDepth 100000 in
set_option maxHeartbeats 8000000 in
theorem go1_ok (w : World) (b : Nat) (u : Int) (r : BitVec 32) (v : Value) (n : Nat) (g : Nat → BitVec 8) (hT : TabRep w b u) (hB : BV b w v n g) (hn : n ≤ 9223372036854775807) :
    Calls Try.prog 18 (denL [.v (.pointer (some ⟨b, 0, none⟩)), .v (.int .u32 (rv r)), .v v]).toArray w (GoPost w b u (go r g n)) := by
  obtain ⟨d, T, hd, hdT, hb⟩ := hT
  have hE : HpAll ⟨w, w.heap.size, [b]⟩ w [(b, false, .cells (tabC d 0 T u) 55)] := ⟨⟨hb, by simp, by simp⟩, trivial⟩
  refine enter (F := ⟨w, w.heap.size, [b]⟩) Try.func18 rfl [.ptr 0 b 0, .v (.int .u32 (rv r)), .v v] _ (by simp [Try.f18]) hE (KeepsTo.refl w _) fun a hr => ?_
  refine seg cfg18_ok mixed PanicFree.body 1000 [] [] hr (by first | trivial | exact HpRep.nil | assumption) (by kernel_rfl) fun s_ hs_ => ?_
  simp (maxSteps := 10000000) [SX.vc, SX.stop, SX.contS, SX.contB, SX.contW, SX.contR, SX.contD, SX.sxStep, SX.stepPure, SX.stepNew, SX.stepStore, SX.stepKeep, SX.guardIx, SX.evOp, SX.opd, SX.opds, SX.optOpd, SX.look, SX.putS, SX.gobs, SX.AllP, SX.leave, SX.lookC, SX.lookB, SX.lookT, SX.lookN, SX.findK, SX.evBuiltin, SX.ints, SX.foldI, SX.evBin, SX.evInt, SX.evStr, SX.evEq, SX.arith, SX.evLoad, SX.shapeUp, SX.evFieldAddr, SX.evField, SX.evIndexAddr, SX.evIndex, SX.evFill, SX.evBuild, SX.szs, SX.cellsV, SX.evNew, SX.evStore, SX.spliceL, SX.SV.cells, SX.evConv, SX.evSlice, SX.bnd, SX.evNil, SX.evUn, SX.evPick, SX.pickOpd, SX.popTo, SX.cnd, SX.env0, SX.TD.isAgg, SX.TD.isIface, SX.tails, SX.NotAgg, SX.evLookup, SX.evConvH, SX.evPtrEq, SX.isCells, Go.Value.cells, cfg18, Try.f18]
  refine ⟨by (unfold SX.Ob; first | trivial | omega | ((try simp only [SX.inK]); (try simp [SX.den, SX.IsU8, *]); (try omega))), ?_⟩
  intro a1 w1 hr1 _
  refine post_call 19 [.ptr 0 b 0, .fn (.func 20) [.ptr 0 b 0] []] hr1 (wanted_none rfl) rfl (callable 19 Try.func19) (do_ok w1 b d hd T u hdT hr1.all.1.1) ?_
  rintro e w2 ⟨rfl, hk2, hb2⟩
  refine ⟨_, rfl, ?_⟩
  have hB2 := (hB.keep hr1.keeps).keep hk2
  have h2 := hr1.retK hk2 (fun x hx => .inr hx) 14 (.tu []) rfl [(b, false, .cells (tabC 1 0 tabI u) 55)] ⟨⟨hb2, by simp, by simp⟩, trivial⟩ (by simp) rfl
  rcases hB2 with ⟨rfl, ad, cap, rfl⟩ | ⟨h0, bb, o0, N, cap, t, fz, h1, rfl, h3, h4⟩
  · refine seg cfg18_ok mixed PanicFree.body 1000 [] [] h2 (by first | trivial | exact HpRep.nil | assumption) (by kernel_rfl) fun s_ hs_ => ?_
    simp (maxSteps := 10000000) [SX.vc, SX.stop, SX.contS, SX.contB, SX.contW, SX.contR, SX.contD, SX.sxStep, SX.stepPure, SX.stepNew, SX.stepStore, SX.stepKeep, SX.guardIx, SX.evOp, SX.opd, SX.opds, SX.optOpd, SX.look, SX.putS, SX.gobs, SX.AllP, SX.leave, SX.lookC, SX.lookB, SX.lookT, SX.lookN, SX.findK, SX.evBuiltin, SX.ints, SX.foldI, SX.evBin, SX.evInt, SX.evStr, SX.evEq, SX.arith, SX.evLoad, SX.shapeUp, SX.evFieldAddr, SX.evField, SX.evIndexAddr, SX.evIndex, SX.evFill, SX.evBuild, SX.szs, SX.cellsV, SX.evNew, SX.evStore, SX.spliceL, SX.SV.cells, SX.evConv, SX.evSlice, SX.bnd, SX.evNil, SX.evUn, SX.evPick, SX.pickOpd, SX.popTo, SX.cnd, SX.env0, SX.TD.isAgg, SX.TD.isIface, SX.tails, SX.NotAgg, SX.evLookup, SX.evConvH, SX.evPtrEq, SX.isCells, Go.Value.cells, cfg18]
    refine ⟨by (unfold SX.Ob; first | trivial | omega | ((try simp only [SX.inK]); (try simp [SX.den, SX.IsU8, *]); (try omega))), ?_⟩
    intro a3 w3 hr3 _
    refine post_loop (GoNil w b u r) 0 ⟨rfl, hr3.re (by simp [envTo, SX.look]) hr3.all rfl rfl⟩ ?_
    rintro m a4 w4 ⟨rfl, hr4⟩
    refine seg cfg18_ok mixed PanicFree.body 1000 [false] [] hr4 (by first | trivial | exact HpRep.nil | assumption) (by kernel_rfl) fun s_ hs_ => ?_
    simp (maxSteps := 10000000) [SX.vc, SX.stop, SX.contS, SX.contB, SX.contW, SX.contR, SX.contD, SX.sxStep, SX.stepPure, SX.stepNew, SX.stepStore, SX.stepKeep, SX.guardIx, SX.evOp, SX.opd, SX.opds, SX.optOpd, SX.look, SX.putS, SX.gobs, SX.AllP, SX.leave, SX.lookC, SX.lookB, SX.lookT, SX.lookN, SX.findK, SX.evBuiltin, SX.ints, SX.foldI, SX.evBin, SX.evInt, SX.evStr, SX.evEq, SX.arith, SX.evLoad, SX.shapeUp, SX.evFieldAddr, SX.evField, SX.evIndexAddr, SX.evIndex, SX.evFill, SX.evBuild, SX.szs, SX.cellsV, SX.evNew, SX.evStore, SX.spliceL, SX.SV.cells, SX.evConv, SX.evSlice, SX.bnd, SX.evNil, SX.evUn, SX.evPick, SX.pickOpd, SX.popTo, SX.cnd, SX.env0, SX.TD.isAgg, SX.TD.isIface, SX.tails, SX.NotAgg, SX.evLookup, SX.evConvH, SX.evPtrEq, SX.isCells, Go.Value.cells, cfg18]
    refine ⟨by (unfold SX.Ob; first | trivial | omega | ((try simp only [SX.inK]); (try simp [SX.den, SX.IsU8, *]); (try omega))), ?_⟩
    intro a5 w5 hr5 _
    exact post_retn (end1 hr5 rfl rfl ⟨rfl, hr5.keeps, hr5.all.1.1⟩).1
  · have h3' : RepX ⟨w, w.heap.size, [b]⟩ ⟨[(14, 0, .tu []), (2, 0, .sl 1 bb o0 0 n cap 1), (1, 0, .v (.int .u32 (rv r))), (0, 0, .ptr 0 b 0)], [(b, false, .cells (tabC 1 0 tabI u) 55), (bb, false, .arr o0 N (fun j => [.v (.int .u8 (bv (g j)))]) 1 t fz)], 0, 0, 35, [], [], []⟩ _ w2 :=
      h2.re (by simp [envTo, SX.look, den]) ⟨⟨hb2, by simp, by simpa using h1.symm⟩, ⟨h4, by simp, by simp⟩, trivial⟩ rfl rfl
    refine seg cfg18_ok mixed PanicFree.body 1000 [] [] h3' (by first | trivial | exact HpRep.nil | assumption) (by kernel_rfl) fun s_ hs_ => ?_
    simp (maxSteps := 10000000) [SX.vc, SX.stop, SX.contS, SX.contB, SX.contW, SX.contR, SX.contD, SX.sxStep, SX.stepPure, SX.stepNew, SX.stepStore, SX.stepKeep, SX.guardIx, SX.evOp, SX.opd, SX.opds, SX.optOpd, SX.look, SX.putS, SX.gobs, SX.AllP, SX.leave, SX.lookC, SX.lookB, SX.lookT, SX.lookN, SX.findK, SX.evBuiltin, SX.ints, SX.foldI, SX.evBin, SX.evInt, SX.evStr, SX.evEq, SX.arith, SX.evLoad, SX.shapeUp, SX.evFieldAddr, SX.evField, SX.evIndexAddr, SX.evIndex, SX.evFill, SX.evBuild, SX.szs, SX.cellsV, SX.evNew, SX.evStore, SX.spliceL, SX.SV.cells, SX.evConv, SX.evSlice, SX.bnd, SX.evNil, SX.evUn, SX.evPick, SX.pickOpd, SX.popTo, SX.cnd, SX.env0, SX.TD.isAgg, SX.TD.isIface, SX.tails, SX.NotAgg, SX.evLookup, SX.evConvH, SX.evPtrEq, SX.isCells, Go.Value.cells, cfg18]
    refine ⟨by (unfold SX.Ob; first | trivial | omega | ((try simp only [SX.inK]); (try simp [SX.den, SX.IsU8, *]); (try omega))), ?_⟩
    intro a3 w3 hr3 _
    refine post_loop (GoLoop w b u r g n bb o0 N cap t fz) n ⟨0, rfl, by omega, hr3.re (by simp [envTo, SX.look, go]) hr3.all rfl rfl⟩ ?_
    rintro m a4 w4 ⟨k, rfl, hk, hr4⟩
    by_cases hlt : k < n
    · have hy := bv_in (BitVec.setWidth 8 (go r g k) ^^^ g k)
      refine seg cfg18_ok mixed PanicFree.body 1000 [true] [] hr4 (by first | trivial | exact HpRep.nil | assumption) (by kernel_rfl) fun s_ hs_ => ?_
      simp (maxSteps := 10000000) [SX.vc, SX.stop, SX.contS, SX.contB, SX.contW, SX.contR, SX.contD, SX.sxStep, SX.stepPure, SX.stepNew, SX.stepStore, SX.stepKeep, SX.guardIx, SX.evOp, SX.opd, SX.opds, SX.optOpd, SX.look, SX.putS, SX.gobs, SX.AllP, SX.leave, SX.lookC, SX.lookB, SX.lookT, SX.lookN, SX.findK, SX.evBuiltin, SX.ints, SX.foldI, SX.evBin, SX.evInt, SX.evStr, SX.evEq, SX.arith, SX.evLoad, SX.shapeUp, SX.evFieldAddr, SX.evField, SX.evIndexAddr, SX.evIndex, SX.evFill, SX.evBuild, SX.szs, SX.cellsV, SX.evNew, SX.evStore, SX.spliceL, SX.SV.cells, SX.evConv, SX.evSlice, SX.bnd, SX.evNil, SX.evUn, SX.evPick, SX.pickOpd, SX.popTo, SX.cnd, SX.env0, SX.TD.isAgg, SX.TD.isIface, SX.tails, SX.NotAgg, SX.evLookup, SX.evConvH, SX.evPtrEq, SX.isCells, Go.Value.cells, cfg18, vlo, vx8, vx32, vsh8, tab_load, tab_at8]
      refine ⟨by (unfold SX.Ob; first | trivial | omega | ((try simp only [SX.inK]); (try simp [SX.den, SX.IsU8, *]); (try omega))), ?_⟩
      intro a5 w5 hr5 _
      exact post_rnd (n - (k + 1)) (by omega) ⟨k + 1, rfl, hlt, hr5.re (by simp [envTo, SX.look, den, go, Crc.step]) hr5.all rfl rfl⟩
    · obtain rfl : k = n := by omega
      refine seg cfg18_ok mixed PanicFree.body 1000 [false] [] hr4 (by first | trivial | exact HpRep.nil | assumption) (by kernel_rfl) fun s_ hs_ => ?_
      simp (maxSteps := 10000000) [SX.vc, SX.stop, SX.contS, SX.contB, SX.contW, SX.contR, SX.contD, SX.sxStep, SX.stepPure, SX.stepNew, SX.stepStore, SX.stepKeep, SX.guardIx, SX.evOp, SX.opd, SX.opds, SX.optOpd, SX.look, SX.putS, SX.gobs, SX.AllP, SX.leave, SX.lookC, SX.lookB, SX.lookT, SX.lookN, SX.findK, SX.evBuiltin, SX.ints, SX.foldI, SX.evBin, SX.evInt, SX.evStr, SX.evEq, SX.arith, SX.evLoad, SX.shapeUp, SX.evFieldAddr, SX.evField, SX.evIndexAddr, SX.evIndex, SX.evFill, SX.evBuild, SX.szs, SX.cellsV, SX.evNew, SX.evStore, SX.spliceL, SX.SV.cells, SX.evConv, SX.evSlice, SX.bnd, SX.evNil, SX.evUn, SX.evPick, SX.pickOpd, SX.popTo, SX.cnd, SX.env0, SX.TD.isAgg, SX.TD.isIface, SX.tails, SX.NotAgg, SX.evLookup, SX.evConvH, SX.evPtrEq, SX.isCells, Go.Value.cells, cfg18]
      refine ⟨by (unfold SX.Ob; first | trivial | omega | ((try simp only [SX.inK]); (try simp [SX.den, SX.IsU8, *]); (try omega))), ?_⟩
      intro a5 w5 hr5 _
      exact post_retn (end1 hr5 rfl rfl ⟨rfl, hr5.keeps, hr5.all.1.1⟩).1
end Go.Proofs
