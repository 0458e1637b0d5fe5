/- The law CrcCounts, walked. -/
import Derived.Test.YtcepnjkcdkkdpaaRX
import Derived.Test.YtcepnjkcdkkdpaaRS
namespace Go.Proofs
set_option linter.unusedVariables false
set_option linter.unusedSimpArgs false
open Go Go.SX Go.RowKit Go.Crc

theorem BV.fresh {b b2 : Nat} {w : World} {v : Value} {n : Nat} {g : Nat → BitVec 8} (h : BV b w v n g) (hb : w.heap.size ≤ b2) : BV b2 w v n g := by
  rcases h with h | ⟨h0, bb, o0, N, cap, u, fz, h1, h2, h3, h4⟩
  · exact .inl h
  · have := SO.rep_lt h4
    exact .inr ⟨h0, bb, o0, N, cap, u, fz, by omega, h2, h3, h4⟩

theorem BV.keep2 {b b2 : Nat} {w w' : World} {v : Value} {n : Nat} {g : Nat → BitVec 8} (h : BV b w v n g) (h2 : BV b2 w v n g) (hk : KeepsTo w [b2] w') : BV b w' v n g := by
  rcases h with h | ⟨h0, bb, o0, N, cap, u, fz, h1, h2', h3, h4⟩
  · exact .inl h
  · rcases h2 with ⟨e, _⟩ | ⟨_, bb', _, _, _, _, _, e1, e2, _⟩
    · omega
    · have : bb = bb' := by
        have := h2'.symm.trans e2
        simp at this
        exact this.1.1
      exact .inr ⟨h0, bb, o0, N, cap, u, fz, h1, h2', h3, hk.same h4 (by simp; omega)⟩

def CountLoop (w : World) (b m nn : Nat) (ns : Nat → Nat) (gs : Nat → Nat → BitVec 8) (lb o0 N cap : Nat) (t : TypeId) (fz : Nat × Nat) (vs : Nat → Value) (d : Nat) (a : Act) (w' : World) : Prop :=
  ∃ k : Nat, d = m - k ∧ k ≤ m ∧ TabRep w' b ((3 * k : Nat) : Int) ∧ (∀ j, j < m → BV b w' (vs j) (ns j) (gs j) ∧ ns j ≤ 9223372036854775807) ∧
    RepX (frame0 w) ⟨[(31, 0, .v (.int .i64 k)), (30, 0, .v (.int .i64 m)), (29, 0, .sl 0 lb o0 0 m cap 1), (6, 0, .ptr 0 b 0), (5, 0, .v (.bool true)), (1, 0, .v (.int .i64 nn)), (0, 0, .sl 0 lb o0 0 m cap 1)],
      [(lb, false, .arr o0 N (fun j => [.v (vs j)]) 1 t fz)], 0, 0, 86, [], [], []⟩ a w'

def CountNil (w : World) (b nn : Nat) (ad : Option Addr) (cap : Nat) (d : Nat) (a : Act) (w' : World) : Prop :=
  d = 0 ∧ TabRep w' b 0 ∧ RepX (frame0 w) ⟨[(31, 0, .v (.int .i64 0)), (30, 0, .v (.int .i64 0)), (6, 0, .ptr 0 b 0), (5, 0, .v (.bool true)), (1, 0, .v (.int .i64 nn)), (0, 0, .v (.slice ad 0 cap))], [], 0, 0, 86, [], [], []⟩ a w'

theorem rv_1 : rv 1#32 = 1 := by decide
theorem rv_2 : rv 2#32 = 2 := by decide

set_option maxRecDepth 100000 in
set_option maxHeartbeats 16000000 in
theorem counts_ok (w : World) (vl : Value) (y : Int) (hy : inK y) (m : Nat) (ns : Nat → Nat) (gs : Nat → Nat → BitVec 8) (hL : ∀ b, w.heap.size ≤ b → LV b w vl m ns gs) (hm : m ≤ 9223372036854775807) :
    Calls Try.prog 7 (denL [.v vl, .v (.int .i64 y)]).toArray w (LivePost w) := by
  have hsl : ∃ a c, vl = .slice a m c := by
    rcases hL w.heap.size (Nat.le_refl _) with ⟨rfl, a, c, e⟩ | ⟨_, lb, o0, N, c, _, _, _, _, e, _⟩
    · exact ⟨a, c, e⟩
    · exact ⟨_, _, e⟩
  obtain ⟨va, vc, hvl⟩ := hsl
  refine enter (F := frame0 w) Try.func7 rfl [.v vl, .v (.int .i64 y)] [] (by simp [Try.f7]) trivial (keeps0 w) fun a hr => ?_
  refine seg cfg7_ok mixed PanicFree.body 1000 [] [] hr (by first | trivial | exact HpRep.nil | assumption) (by kernel_rfl) fun s_ hs_ => ?_
  simp [SX.vc, SX.stop, SX.contS, SX.contB, SX.contW, SX.contR, SX.contD, SX.sxStep, SX.stepPure, SX.stepNew, SX.stepStore, SX.stepKeep, SX.guardIx, SX.evOp, SX.opd, SX.opds, SX.optOpd, SX.look, SX.putS, SX.gobs, SX.AllP, SX.leave, SX.lookC, SX.lookB, SX.lookT, SX.lookN, SX.findK, SX.evBuiltin, SX.ints, SX.foldI, SX.evBin, SX.evInt, SX.evStr, SX.evEq, SX.arith, SX.evLoad, SX.shapeUp, SX.evFieldAddr, SX.evField, SX.evIndexAddr, SX.evIndex, SX.evFill, SX.evBuild, SX.szs, SX.cellsV, SX.evNew, SX.evStore, SX.spliceL, SX.SV.cells, SX.evConv, SX.evSlice, SX.bnd, SX.evNil, SX.evUn, SX.evPick, SX.pickOpd, SX.popTo, SX.cnd, SX.env0, SX.TD.isAgg, SX.TD.isIface, SX.tails, SX.NotAgg, SX.evLookup, SX.evConvH, SX.evPtrEq, SX.isCells, Go.Value.cells, cfg7, Try.f7]
  refine ⟨by (unfold SX.Ob; first | trivial | omega | ((try simp only [SX.inK]); (try simp [SX.den, SX.IsU8, *]); (try omega))), ?_⟩
  intro a1 w1 hr1 _
  refine post_call 8 [] hr1 (wanted_none rfl) rfl (callable 8 Try.func8) (live_ok w1) ?_
  rintro e w2 ⟨rfl, hb2⟩
  refine ⟨_, rfl, ?_⟩
  have h2 := hr1.ret hb2 12 (.v (.bool true)) rfl [] trivial (by simp) rfl
  refine seg cfg7_ok mixed PanicFree.body 1000 [] [] h2 (by first | trivial | exact HpRep.nil | assumption) (by kernel_rfl) fun s_ hs_ => ?_
  simp [SX.vc, SX.stop, SX.contS, SX.contB, SX.contW, SX.contR, SX.contD, SX.sxStep, SX.stepPure, SX.stepNew, SX.stepStore, SX.stepKeep, SX.guardIx, SX.evOp, SX.opd, SX.opds, SX.optOpd, SX.look, SX.putS, SX.gobs, SX.AllP, SX.leave, SX.lookC, SX.lookB, SX.lookT, SX.lookN, SX.findK, SX.evBuiltin, SX.ints, SX.foldI, SX.evBin, SX.evInt, SX.evStr, SX.evEq, SX.arith, SX.evLoad, SX.shapeUp, SX.evFieldAddr, SX.evField, SX.evIndexAddr, SX.evIndex, SX.evFill, SX.evBuild, SX.szs, SX.cellsV, SX.evNew, SX.evStore, SX.spliceL, SX.SV.cells, SX.evConv, SX.evSlice, SX.bnd, SX.evNil, SX.evUn, SX.evPick, SX.pickOpd, SX.popTo, SX.cnd, SX.env0, SX.TD.isAgg, SX.TD.isIface, SX.tails, SX.NotAgg, SX.evLookup, SX.evConvH, SX.evPtrEq, SX.isCells, Go.Value.cells, cfg7]
  refine ⟨by (unfold SX.Ob; first | trivial | omega | ((try simp only [SX.inK]); (try simp [SX.den, SX.IsU8, *]); (try omega))), ?_⟩
  intro a3 w3 hr3 _
  have hL3 := (hL w.heap.size (Nat.le_refl _)).below hr3.keeps.toBelow
  refine post_call 9 [.v vl] hr3 (wanted_none rfl) rfl (callable 9 Try.func9) (big_ok w3 vl m ns hL3.lens hm) ?_
  rintro e w4 ⟨rfl, hb4⟩
  refine ⟨_, rfl, ?_⟩
  have h4 := hr3.ret hb4 14 (.v (.bool (decide (bigX ns m > 20000)))) rfl [] trivial (by simp) rfl
  by_cases ht : bigX ns m > 20000
  · refine seg cfg7_ok mixed PanicFree.body 1000 [true] [(15, true)] h4 (by first | trivial | exact HpRep.nil | assumption) (by kernel_rfl) fun s_ hs_ => ?_
    simp [SX.vc, SX.stop, SX.contS, SX.contB, SX.contW, SX.contR, SX.contD, SX.sxStep, SX.stepPure, SX.stepNew, SX.stepStore, SX.stepKeep, SX.guardIx, SX.evOp, SX.opd, SX.opds, SX.optOpd, SX.look, SX.putS, SX.gobs, SX.AllP, SX.leave, SX.lookC, SX.lookB, SX.lookT, SX.lookN, SX.findK, SX.evBuiltin, SX.ints, SX.foldI, SX.evBin, SX.evInt, SX.evStr, SX.evEq, SX.arith, SX.evLoad, SX.shapeUp, SX.evFieldAddr, SX.evField, SX.evIndexAddr, SX.evIndex, SX.evFill, SX.evBuild, SX.szs, SX.cellsV, SX.evNew, SX.evStore, SX.spliceL, SX.SV.cells, SX.evConv, SX.evSlice, SX.bnd, SX.evNil, SX.evUn, SX.evPick, SX.pickOpd, SX.popTo, SX.cnd, SX.env0, SX.TD.isAgg, SX.TD.isIface, SX.tails, SX.NotAgg, SX.evLookup, SX.evConvH, SX.evPtrEq, SX.isCells, Go.Value.cells, cfg7, ht]
    refine ⟨by (unfold SX.Ob; first | trivial | omega | ((try simp only [SX.inK]); (try simp [SX.den, SX.IsU8, *]); (try omega))), ?_⟩
    intro a5 w5 hr5 _
    exact post_retn (end1 hr5 rfl rfl ⟨rfl, hr5.keeps.toBelow⟩).1
  by_cases ht2 : (m : Int) > 200
  · subst hvl
    refine seg cfg7_ok mixed PanicFree.body 1000 [true] [(15, false)] h4 (by first | trivial | exact HpRep.nil | assumption) (by kernel_rfl) fun s_ hs_ => ?_
    simp [SX.vc, SX.stop, SX.contS, SX.contB, SX.contW, SX.contR, SX.contD, SX.sxStep, SX.stepPure, SX.stepNew, SX.stepStore, SX.stepKeep, SX.guardIx, SX.evOp, SX.opd, SX.opds, SX.optOpd, SX.look, SX.putS, SX.gobs, SX.AllP, SX.leave, SX.lookC, SX.lookB, SX.lookT, SX.lookN, SX.findK, SX.evBuiltin, SX.ints, SX.foldI, SX.evBin, SX.evInt, SX.evStr, SX.evEq, SX.arith, SX.evLoad, SX.shapeUp, SX.evFieldAddr, SX.evField, SX.evIndexAddr, SX.evIndex, SX.evFill, SX.evBuild, SX.szs, SX.cellsV, SX.evNew, SX.evStore, SX.spliceL, SX.SV.cells, SX.evConv, SX.evSlice, SX.bnd, SX.evNil, SX.evUn, SX.evPick, SX.pickOpd, SX.popTo, SX.cnd, SX.env0, SX.TD.isAgg, SX.TD.isIface, SX.tails, SX.NotAgg, SX.evLookup, SX.evConvH, SX.evPtrEq, SX.isCells, Go.Value.cells, cfg7, ht, ht2]
    refine ⟨by (unfold SX.Ob; first | trivial | omega | ((try simp only [SX.inK]); (try simp [SX.den, SX.IsU8, *]); (try omega))), ?_⟩
    intro a5 w5 hr5 _
    exact post_retn (end1 hr5 rfl rfl ⟨rfl, hr5.keeps.toBelow⟩).1
  have hm2 : m ≤ 200 := by omega
  obtain ⟨hy1, hy2⟩ := tmod_bounds y 100 (by omega)
  obtain ⟨nn, hnn, hn2⟩ := wrapped_idx y 100 (by omega)
  simp only [Int.cast_ofNat_Int] at hy1 hy2 hnn
  have h4s : RepX (frame0 w) ⟨[(14, 0, .v (.bool false)), (5, 0, .v (.bool true)), (1, 0, .v (.int .i64 y)), (0, 0, .v (.slice va m vc))], [], 0, 0, 86, [], [], []⟩ _ w4 :=
    h4.re (by simp [envTo, SX.look, den, ht, hvl]) trivial rfl rfl
  refine seg cfg7_ok mixed PanicFree.body 1000 [false] [(15, false)] h4s (by first | trivial | exact HpRep.nil | assumption) (by kernel_rfl) fun s_ hs_ => ?_
  simp [SX.vc, SX.stop, SX.contS, SX.contB, SX.contW, SX.contR, SX.contD, SX.sxStep, SX.stepPure, SX.stepNew, SX.stepStore, SX.stepKeep, SX.guardIx, SX.evOp, SX.opd, SX.opds, SX.optOpd, SX.look, SX.putS, SX.gobs, SX.AllP, SX.leave, SX.lookC, SX.lookB, SX.lookT, SX.lookN, SX.findK, SX.evBuiltin, SX.ints, SX.foldI, SX.evBin, SX.evInt, SX.evStr, SX.evEq, SX.arith, SX.evLoad, SX.shapeUp, SX.evFieldAddr, SX.evField, SX.evIndexAddr, SX.evIndex, SX.evFill, SX.evBuild, SX.szs, SX.cellsV, SX.evNew, SX.evStore, SX.spliceL, SX.SV.cells, SX.evConv, SX.evSlice, SX.bnd, SX.evNil, SX.evUn, SX.evPick, SX.pickOpd, SX.popTo, SX.cnd, SX.env0, SX.TD.isAgg, SX.TD.isIface, SX.tails, SX.NotAgg, SX.evLookup, SX.evConvH, SX.evPtrEq, SX.isCells, Go.Value.cells, cfg7, ht2]
  refine ⟨by (unfold SX.Ob; first | trivial | omega | ((try simp only [SX.inK]); (try simp [SX.den, SX.IsU8, *]); (try omega))), ?_⟩
  intro a5 w5 hr5 _
  have hz5 : w.heap.size ≤ w5.heap.size := hr5.keeps.size
  refine post_call 10 [] hr5 (wanted_none rfl) rfl (callable 10 Try.func10) (new_ok w5) ?_
  rintro e w6 ⟨b, rfl, hbz, hT6, hb6⟩
  have hwb : w.heap.size ≤ b := by omega
  have hM : ∀ x ∈ [b], (frame0 w).B ≤ x ∨ x ∈ (frame0 w).M := fun x hx => .inl (by simp at hx; subst hx; exact hwb)
  have hL6 : LV b w6 vl m ns gs := ((hL b hwb).below hr5.keeps.toBelow).below hb6
  refine ⟨_, rfl, ?_⟩
  have h6 := hr5.ret hb6 21 (.ptr 0 b 0) rfl [] trivial (by simp) rfl
  refine seg cfg7_ok mixed PanicFree.body 1000 [] [] h6.rebase (by first | trivial | exact HpRep.nil | assumption) (by kernel_rfl) fun s_ hs_ => ?_
  simp [SX.vc, SX.stop, SX.contS, SX.contB, SX.contW, SX.contR, SX.contD, SX.sxStep, SX.stepPure, SX.stepNew, SX.stepStore, SX.stepKeep, SX.guardIx, SX.evOp, SX.opd, SX.opds, SX.optOpd, SX.look, SX.putS, SX.gobs, SX.AllP, SX.leave, SX.lookC, SX.lookB, SX.lookT, SX.lookN, SX.findK, SX.evBuiltin, SX.ints, SX.foldI, SX.evBin, SX.evInt, SX.evStr, SX.evEq, SX.arith, SX.evLoad, SX.shapeUp, SX.evFieldAddr, SX.evField, SX.evIndexAddr, SX.evIndex, SX.evFill, SX.evBuild, SX.szs, SX.cellsV, SX.evNew, SX.evStore, SX.spliceL, SX.SV.cells, SX.evConv, SX.evSlice, SX.bnd, SX.evNil, SX.evUn, SX.evPick, SX.pickOpd, SX.popTo, SX.cnd, SX.env0, SX.TD.isAgg, SX.TD.isIface, SX.tails, SX.NotAgg, SX.evLookup, SX.evConvH, SX.evPtrEq, SX.isCells, Go.Value.cells, cfg7]
  refine ⟨by (unfold SX.Ob; first | trivial | omega | ((try simp only [SX.inK]); (try simp [SX.den, SX.IsU8, *]); (try omega))), ?_⟩
  intro a7 w7 hr7' _
  have hr7 := h6.unbase hr7'
  have hb7 : Below w6.heap.size w6 w7 := by simpa [mutB] using hr7'.keeps.toBelow
  have hT7 := hT6.keep hb7
  refine post_call 16 [.ptr 0 b 0] hr7 (wanted_none rfl) rfl (callable 16 Try.func16) (used_ok w7 b _ hT7) ?_
  rintro e w8 ⟨rfl, hb8⟩
  refine ⟨_, rfl, ?_⟩
  have hT8 := hT7.keep hb8
  have hL8 := (hL6.below hb7).below hb8
  have h8 := hr7.ret hb8 23 (.v (.int .i64 0)) rfl [] trivial (by simp) rfl
  clear hr hr1 h2 hr3 h4 h4s hr5 h6 hr7 hr7' hT6 hT7 hL hL3 hL6
  rcases hL8 with ⟨rfl, ad, cap, hv0⟩ | ⟨h0, lb, o0, N, cap, t, fz, vs, h1, hv0, h3, h4, h5⟩
  · refine seg cfg7_ok mixed PanicFree.body 1000 [false] [] h8.rebase (by first | trivial | exact HpRep.nil | assumption) (by kernel_rfl) fun s_ hs_ => ?_
    simp [SX.vc, SX.stop, SX.contS, SX.contB, SX.contW, SX.contR, SX.contD, SX.sxStep, SX.stepPure, SX.stepNew, SX.stepStore, SX.stepKeep, SX.guardIx, SX.evOp, SX.opd, SX.opds, SX.optOpd, SX.look, SX.putS, SX.gobs, SX.AllP, SX.leave, SX.lookC, SX.lookB, SX.lookT, SX.lookN, SX.findK, SX.evBuiltin, SX.ints, SX.foldI, SX.evBin, SX.evInt, SX.evStr, SX.evEq, SX.arith, SX.evLoad, SX.shapeUp, SX.evFieldAddr, SX.evField, SX.evIndexAddr, SX.evIndex, SX.evFill, SX.evBuild, SX.szs, SX.cellsV, SX.evNew, SX.evStore, SX.spliceL, SX.SV.cells, SX.evConv, SX.evSlice, SX.bnd, SX.evNil, SX.evUn, SX.evPick, SX.pickOpd, SX.popTo, SX.cnd, SX.env0, SX.TD.isAgg, SX.TD.isIface, SX.tails, SX.NotAgg, SX.evLookup, SX.evConvH, SX.evPtrEq, SX.isCells, Go.Value.cells, cfg7, hnn]
    refine ⟨by (unfold SX.Ob; first | trivial | omega | ((try simp only [SX.inK]); (try simp [SX.den, SX.IsU8, *]); (try omega))), ?_⟩
    intro a9 w9 hr9' _
    have hr9 := h8.unbase hr9'
    have hT9 := hT8.keep (by simpa [mutB] using hr9'.keeps.toBelow)
    refine post_loop (CountNil w b nn va vc) 0 ⟨rfl, hT9, hr9.re (by simp [envTo, SX.look]) trivial rfl rfl⟩ ?_
    rintro d a10 w10 ⟨rfl, hT10, hr10⟩
    refine seg cfg7_ok mixed PanicFree.body 1000 [false] [] hr10.rebase (by first | trivial | exact HpRep.nil | assumption) (by kernel_rfl) fun s_ hs_ => ?_
    simp [SX.vc, SX.stop, SX.contS, SX.contB, SX.contW, SX.contR, SX.contD, SX.sxStep, SX.stepPure, SX.stepNew, SX.stepStore, SX.stepKeep, SX.guardIx, SX.evOp, SX.opd, SX.opds, SX.optOpd, SX.look, SX.putS, SX.gobs, SX.AllP, SX.leave, SX.lookC, SX.lookB, SX.lookT, SX.lookN, SX.findK, SX.evBuiltin, SX.ints, SX.foldI, SX.evBin, SX.evInt, SX.evStr, SX.evEq, SX.arith, SX.evLoad, SX.shapeUp, SX.evFieldAddr, SX.evField, SX.evIndexAddr, SX.evIndex, SX.evFill, SX.evBuild, SX.szs, SX.cellsV, SX.evNew, SX.evStore, SX.spliceL, SX.SV.cells, SX.evConv, SX.evSlice, SX.bnd, SX.evNil, SX.evUn, SX.evPick, SX.pickOpd, SX.popTo, SX.cnd, SX.env0, SX.TD.isAgg, SX.TD.isIface, SX.tails, SX.NotAgg, SX.evLookup, SX.evConvH, SX.evPtrEq, SX.isCells, Go.Value.cells, cfg7]
    refine ⟨by (unfold SX.Ob; first | trivial | omega | ((try simp only [SX.inK]); (try simp [SX.den, SX.IsU8, *]); (try omega))), ?_⟩
    intro a11 w11 hr11' _
    have hr11 := hr10.unbase hr11'
    have hT11 := hT10.keep (by simpa [mutB] using hr11'.keeps.toBelow)
    have hj := join_ok w11 b 0 hT11 (by unfold inK; omega) 1#32 2#32 nn (by omega)
    rw [rv_1, rv_2] at hj
    refine post_call 15 [.ptr 0 b 0, .v (.int .u32 1), .v (.int .u32 2), .v (.int .i64 nn)] hr11 (wanted_none rfl) rfl (callable 15 Try.func15) hj ?_
    rintro e w12 ⟨rfl, hk12, hT12⟩
    refine ⟨_, rfl, ?_⟩
    have h12 := hr11.retK hk12 hM 75 (.v (.int .u32 (rv (fN (8 * nn) 1#32 ^^^ 2#32)))) rfl [] trivial (by simp) rfl
    refine seg cfg7_ok mixed PanicFree.body 1000 [] [(77, true)] h12.rebase (by first | trivial | exact HpRep.nil | assumption) (by kernel_rfl) fun s_ hs_ => ?_
    simp [SX.vc, SX.stop, SX.contS, SX.contB, SX.contW, SX.contR, SX.contD, SX.sxStep, SX.stepPure, SX.stepNew, SX.stepStore, SX.stepKeep, SX.guardIx, SX.evOp, SX.opd, SX.opds, SX.optOpd, SX.look, SX.putS, SX.gobs, SX.AllP, SX.leave, SX.lookC, SX.lookB, SX.lookT, SX.lookN, SX.findK, SX.evBuiltin, SX.ints, SX.foldI, SX.evBin, SX.evInt, SX.evStr, SX.evEq, SX.arith, SX.evLoad, SX.shapeUp, SX.evFieldAddr, SX.evField, SX.evIndexAddr, SX.evIndex, SX.evFill, SX.evBuild, SX.szs, SX.cellsV, SX.evNew, SX.evStore, SX.spliceL, SX.SV.cells, SX.evConv, SX.evSlice, SX.bnd, SX.evNil, SX.evUn, SX.evPick, SX.pickOpd, SX.popTo, SX.cnd, SX.env0, SX.TD.isAgg, SX.TD.isIface, SX.tails, SX.NotAgg, SX.evLookup, SX.evConvH, SX.evPtrEq, SX.isCells, Go.Value.cells, cfg7]
    refine ⟨by (unfold SX.Ob; first | trivial | omega | ((try simp only [SX.inK]); (try simp [SX.den, SX.IsU8, *]); (try omega))), ?_⟩
    intro a13 w13 hr13' _
    have hr13 := h12.unbase hr13'
    have hT13 := hT12.keep (by simpa [mutB] using hr13'.keeps.toBelow)
    refine post_call 16 [.ptr 0 b 0] hr13 (wanted_zero (hr13.env.same rfl rfl rfl rfl) rfl (by simp)) rfl (callable 16 Try.func16) (used_ok w13 b _ hT13) ?_
    rintro e w14 ⟨rfl, hb14⟩
    refine ⟨_, rfl, ?_⟩
    have h14 := hr13.ret hb14 79 (.v (.int .i64 (0 + 1))) rfl [] trivial (by simp) rfl
    refine seg cfg7_ok mixed PanicFree.body 1000 [] [(77, true)] h14 (by first | trivial | exact HpRep.nil | assumption) (by kernel_rfl) fun s_ hs_ => ?_
    simp [SX.vc, SX.stop, SX.contS, SX.contB, SX.contW, SX.contR, SX.contD, SX.sxStep, SX.stepPure, SX.stepNew, SX.stepStore, SX.stepKeep, SX.guardIx, SX.evOp, SX.opd, SX.opds, SX.optOpd, SX.look, SX.putS, SX.gobs, SX.AllP, SX.leave, SX.lookC, SX.lookB, SX.lookT, SX.lookN, SX.findK, SX.evBuiltin, SX.ints, SX.foldI, SX.evBin, SX.evInt, SX.evStr, SX.evEq, SX.arith, SX.evLoad, SX.shapeUp, SX.evFieldAddr, SX.evField, SX.evIndexAddr, SX.evIndex, SX.evFill, SX.evBuild, SX.szs, SX.cellsV, SX.evNew, SX.evStore, SX.spliceL, SX.SV.cells, SX.evConv, SX.evSlice, SX.bnd, SX.evNil, SX.evUn, SX.evPick, SX.pickOpd, SX.popTo, SX.cnd, SX.env0, SX.TD.isAgg, SX.TD.isIface, SX.tails, SX.NotAgg, SX.evLookup, SX.evConvH, SX.evPtrEq, SX.isCells, Go.Value.cells, cfg7]
    refine ⟨by (unfold SX.Ob; first | trivial | omega | ((try simp only [SX.inK]); (try simp [SX.den, SX.IsU8, *]); (try omega))), ?_⟩
    intro a15 w15 hr15 _
    exact post_retn (end1 hr15 rfl rfl ⟨by simp [den], hr15.keeps.toBelow⟩).1
  · have hva : va = some ⟨lb, o0, none⟩ ∧ vc = cap := by
      rw [hvl] at hv0; simpa using hv0
    obtain ⟨rfl, rfl⟩ := hva
    have h8s : RepX (frame0 w) ⟨[(23, 0, .v (.int .i64 0)), (6, 0, .ptr 0 b 0), (5, 0, .v (.bool true)), (1, 0, .v (.int .i64 y)), (0, 0, .sl 0 lb o0 0 m vc 1)], [(lb, false, .arr o0 N (fun j => [.v (vs j)]) 1 t fz)], 0, 0, 86, [], [], []⟩ _ w8 :=
      h8.re (by simp [envTo, SX.look, den]) ⟨⟨h4, by simp, by simp⟩, trivial⟩ rfl rfl
    refine seg cfg7_ok mixed PanicFree.body 1000 [false] [] h8s.rebase (by first | trivial | exact HpRep.nil | assumption) (by kernel_rfl) fun s_ hs_ => ?_
    simp [SX.vc, SX.stop, SX.contS, SX.contB, SX.contW, SX.contR, SX.contD, SX.sxStep, SX.stepPure, SX.stepNew, SX.stepStore, SX.stepKeep, SX.guardIx, SX.evOp, SX.opd, SX.opds, SX.optOpd, SX.look, SX.putS, SX.gobs, SX.AllP, SX.leave, SX.lookC, SX.lookB, SX.lookT, SX.lookN, SX.findK, SX.evBuiltin, SX.ints, SX.foldI, SX.evBin, SX.evInt, SX.evStr, SX.evEq, SX.arith, SX.evLoad, SX.shapeUp, SX.evFieldAddr, SX.evField, SX.evIndexAddr, SX.evIndex, SX.evFill, SX.evBuild, SX.szs, SX.cellsV, SX.evNew, SX.evStore, SX.spliceL, SX.SV.cells, SX.evConv, SX.evSlice, SX.bnd, SX.evNil, SX.evUn, SX.evPick, SX.pickOpd, SX.popTo, SX.cnd, SX.env0, SX.TD.isAgg, SX.TD.isIface, SX.tails, SX.NotAgg, SX.evLookup, SX.evConvH, SX.evPtrEq, SX.isCells, Go.Value.cells, cfg7, hnn]
    refine ⟨by (unfold SX.Ob; first | trivial | omega | ((try simp only [SX.inK]); (try simp [SX.den, SX.IsU8, *]); (try omega))), ?_⟩
    intro a9 w9 hr9' _
    have hr9 := h8s.unbase hr9'
    have hb9 : Below w8.heap.size w8 w9 := by simpa [mutB] using hr9'.keeps.toBelow
    refine post_loop (CountLoop w b m nn ns gs lb o0 N vc t fz vs) m ⟨0, rfl, by omega, hT8.keep hb9, fun j hj => ⟨(h5 j hj).1.below hb9, (h5 j hj).2⟩, hr9.re (by simp [envTo, SX.look]) hr9.all rfl rfl⟩ ?_
    clear h8 h8s hr9 hr9' hT8 h4 h5
    rintro d a10 w10 ⟨k, rfl, hk, hT10, hB10, hr10⟩
    by_cases hlt : k < m
    · obtain ⟨av, cv, hv⟩ := (hB10 k hlt).1.slice
      obtain ⟨x, hx⟩ : ∃ x, x = ~~~ go ones (gs k) (ns k) := ⟨_, rfl⟩
      refine seg cfg7_ok mixed PanicFree.body 1000 [true] [] hr10.rebase (by first | trivial | exact HpRep.nil | assumption) (by kernel_rfl) fun s_ hs_ => ?_
      simp [SX.vc, SX.stop, SX.contS, SX.contB, SX.contW, SX.contR, SX.contD, SX.sxStep, SX.stepPure, SX.stepNew, SX.stepStore, SX.stepKeep, SX.guardIx, SX.evOp, SX.opd, SX.opds, SX.optOpd, SX.look, SX.putS, SX.gobs, SX.AllP, SX.leave, SX.lookC, SX.lookB, SX.lookT, SX.lookN, SX.findK, SX.evBuiltin, SX.ints, SX.foldI, SX.evBin, SX.evInt, SX.evStr, SX.evEq, SX.arith, SX.evLoad, SX.shapeUp, SX.evFieldAddr, SX.evField, SX.evIndexAddr, SX.evIndex, SX.evFill, SX.evBuild, SX.szs, SX.cellsV, SX.evNew, SX.evStore, SX.spliceL, SX.SV.cells, SX.evConv, SX.evSlice, SX.bnd, SX.evNil, SX.evUn, SX.evPick, SX.pickOpd, SX.popTo, SX.cnd, SX.env0, SX.TD.isAgg, SX.TD.isIface, SX.tails, SX.NotAgg, SX.evLookup, SX.evConvH, SX.evPtrEq, SX.isCells, Go.Value.cells, cfg7, hv]
      refine ⟨by (unfold SX.Ob; first | trivial | omega | ((try simp only [SX.inK]); (try simp [SX.den, SX.IsU8, *]); (try omega))), ?_⟩
      intro a11 w11 hr11' _
      obtain ⟨s_1, hs11⟩ : ∃ x, x = s_ := ⟨_, rfl⟩
      subst hs11
      have hr11 := hr10.unbase hr11'
      have hb11 : Below w10.heap.size w10 w11 := by simpa [mutB] using hr11'.keeps.toBelow
      have hlb := hT10.lt
      have hT11 := hT10.keep hb11
      have hB11 : ∀ j, j < m → BV b w11 (vs j) (ns j) (gs j) := fun j hj => (hB10 j hj).1.below hb11
      have hnk := (hB10 k hlt).2
      have hA11 := hr11.all
      have hL11 : LV b w11 (.slice (some ⟨s_1, 0, none⟩) 1 1) 1 (fun _ => ns k) (fun _ => gs k) := LV.one (Nat.le_refl _) (by omega) hA11.2.1.1 rfl (by rw [← hv]; exact hB11 k hlt) hnk
      refine post_call 11 [.ptr 0 b 0, .sl 1 s_1 0 0 1 1 1] hr11 (wanted_none rfl) rfl (callable 11 Try.func11) (sum_ok w11 b _ hT11 (by unfold inK; omega) _ 1 _ _ hL11 (by omega)) ?_
      rintro e w12 ⟨he, hk12, hT12⟩
      have he' : e = .returned (.int .u32 (rv x)) := by rw [he, hx]; rfl
      subst he'
      clear he
      refine ⟨_, rfl, ?_⟩
      have hB12 : ∀ j, j < m → BV b w12 (vs j) (ns j) (gs j) := fun j hj => (hB11 j hj).keep hk12
      have hlbb : lb ∉ [b] := by simpa using h1
      have h12 := hr11.retK hk12 hM 39 (.v (.int .u32 (rv x))) rfl [(lb, false, .arr o0 N (fun j => [.v (vs j)]) 1 t fz)] ⟨⟨hk12.same hA11.1.1 hlbb, by simp, by simp⟩, trivial⟩ (by simp) rfl
      refine seg cfg7_ok mixed PanicFree.body 1000 [] [] h12.rebase (by first | trivial | exact HpRep.nil | assumption) (by kernel_rfl) fun s_ hs_ => ?_
      simp [SX.vc, SX.stop, SX.contS, SX.contB, SX.contW, SX.contR, SX.contD, SX.sxStep, SX.stepPure, SX.stepNew, SX.stepStore, SX.stepKeep, SX.guardIx, SX.evOp, SX.opd, SX.opds, SX.optOpd, SX.look, SX.putS, SX.gobs, SX.AllP, SX.leave, SX.lookC, SX.lookB, SX.lookT, SX.lookN, SX.findK, SX.evBuiltin, SX.ints, SX.foldI, SX.evBin, SX.evInt, SX.evStr, SX.evEq, SX.arith, SX.evLoad, SX.shapeUp, SX.evFieldAddr, SX.evField, SX.evIndexAddr, SX.evIndex, SX.evFill, SX.evBuild, SX.szs, SX.cellsV, SX.evNew, SX.evStore, SX.spliceL, SX.SV.cells, SX.evConv, SX.evSlice, SX.bnd, SX.evNil, SX.evUn, SX.evPick, SX.pickOpd, SX.popTo, SX.cnd, SX.env0, SX.TD.isAgg, SX.TD.isIface, SX.tails, SX.NotAgg, SX.evLookup, SX.evConvH, SX.evPtrEq, SX.isCells, Go.Value.cells, cfg7]
      refine ⟨by (unfold SX.Ob; first | trivial | omega | ((try simp only [SX.inK]); (try simp [SX.den, SX.IsU8, *]); (try omega))), ?_⟩
      intro a13 w13 hr13' _
      have hr13 := h12.unbase hr13'
      have hb13 : Below w12.heap.size w12 w13 := by simpa [mutB] using hr13'.keeps.toBelow
      have hT13 := hT12.keep hb13
      have hB13 : ∀ j, j < m → BV b w13 (vs j) (ns j) (gs j) := fun j hj => (hB12 j hj).below hb13
      have hu := update_ok w13 b _ hT13 (by unfold inK; omega) 0#32 (vs k) (ns k) (gs k) (hB13 k hlt) hnk
      rw [rv_0, hv] at hu
      refine post_call 13 [.ptr 0 b 0, .v (.int .u32 0), .v (.slice av (ns k) cv)] hr13 (wanted_none rfl) rfl (callable 13 Try.func13) hu ?_
      rintro e w14 ⟨he, hk14, hT14⟩
      have he' : e = .returned (.int .u32 (rv x)) := by rw [he, hx]; rfl
      subst he'
      clear he
      refine ⟨_, rfl, ?_⟩
      have hB14 : ∀ j, j < m → BV b w14 (vs j) (ns j) (gs j) := fun j hj => (hB13 j hj).keep hk14
      have h14 := hr13.retK hk14 hM 42 (.v (.int .u32 (rv x))) rfl [(lb, false, .arr o0 N (fun j => [.v (vs j)]) 1 t fz)] (HpAll.to hk14 hr13.all (by simpa using h1)) (by simp) rfl
      refine seg cfg7_ok mixed PanicFree.body 1000 [] [] h14.rebase (by first | trivial | exact HpRep.nil | assumption) (by kernel_rfl) fun s_ hs_ => ?_
      simp [SX.vc, SX.stop, SX.contS, SX.contB, SX.contW, SX.contR, SX.contD, SX.sxStep, SX.stepPure, SX.stepNew, SX.stepStore, SX.stepKeep, SX.guardIx, SX.evOp, SX.opd, SX.opds, SX.optOpd, SX.look, SX.putS, SX.gobs, SX.AllP, SX.leave, SX.lookC, SX.lookB, SX.lookT, SX.lookN, SX.findK, SX.evBuiltin, SX.ints, SX.foldI, SX.evBin, SX.evInt, SX.evStr, SX.evEq, SX.arith, SX.evLoad, SX.shapeUp, SX.evFieldAddr, SX.evField, SX.evIndexAddr, SX.evIndex, SX.evFill, SX.evBuild, SX.szs, SX.cellsV, SX.evNew, SX.evStore, SX.spliceL, SX.SV.cells, SX.evConv, SX.evSlice, SX.bnd, SX.evNil, SX.evUn, SX.evPick, SX.pickOpd, SX.popTo, SX.cnd, SX.env0, SX.TD.isAgg, SX.TD.isIface, SX.tails, SX.NotAgg, SX.evLookup, SX.evConvH, SX.evPtrEq, SX.isCells, Go.Value.cells, cfg7]
      refine ⟨by (unfold SX.Ob; first | trivial | omega | ((try simp only [SX.inK]); (try simp [SX.den, SX.IsU8, *]); (try omega))), ?_⟩
      intro a15 w15 hr15' _
      have hr15 := h14.unbase hr15'
      have hb15 : Below w14.heap.size w14 w15 := by simpa [mutB] using hr15'.keeps.toBelow
      have hT15 := hT14.keep hb15
      have hB15 : ∀ j, j < m → BV b w15 (vs j) (ns j) (gs j) := fun j hj => (hB14 j hj).below hb15
      have hj := join_ok w15 b _ hT15 (by unfold inK; omega) 0#32 x (ns k) hnk
      rw [rv_0, fN_zero, BitVec.zero_xor] at hj
      refine post_call 15 [.ptr 0 b 0, .v (.int .u32 0), .v (.int .u32 (rv x)), .v (.int .i64 (ns k))] hr15 (wanted_none rfl) rfl (callable 15 Try.func15) hj ?_
      rintro e w16 ⟨rfl, hk16, hT16⟩
      refine ⟨_, rfl, ?_⟩
      have hB16 : ∀ j, j < m → BV b w16 (vs j) (ns j) (gs j) := fun j hj => (hB15 j hj).keep hk16
      have h16 := hr15.retK hk16 hM 47 (.v (.int .u32 (rv x))) rfl [(lb, false, .arr o0 N (fun j => [.v (vs j)]) 1 t fz)] (HpAll.to hk16 hr15.all (by simpa using h1)) (by simp) rfl
      refine seg cfg7_ok mixed PanicFree.body 1000 [] [] h16.rebase (by first | trivial | exact HpRep.nil | assumption) (by kernel_rfl) fun s_ hs_ => ?_
      simp [SX.vc, SX.stop, SX.contS, SX.contB, SX.contW, SX.contR, SX.contD, SX.sxStep, SX.stepPure, SX.stepNew, SX.stepStore, SX.stepKeep, SX.guardIx, SX.evOp, SX.opd, SX.opds, SX.optOpd, SX.look, SX.putS, SX.gobs, SX.AllP, SX.leave, SX.lookC, SX.lookB, SX.lookT, SX.lookN, SX.findK, SX.evBuiltin, SX.ints, SX.foldI, SX.evBin, SX.evInt, SX.evStr, SX.evEq, SX.arith, SX.evLoad, SX.shapeUp, SX.evFieldAddr, SX.evField, SX.evIndexAddr, SX.evIndex, SX.evFill, SX.evBuild, SX.szs, SX.cellsV, SX.evNew, SX.evStore, SX.spliceL, SX.SV.cells, SX.evConv, SX.evSlice, SX.bnd, SX.evNil, SX.evUn, SX.evPick, SX.pickOpd, SX.popTo, SX.cnd, SX.env0, SX.TD.isAgg, SX.TD.isIface, SX.tails, SX.NotAgg, SX.evLookup, SX.evConvH, SX.evPtrEq, SX.isCells, Go.Value.cells, cfg7]
      refine ⟨by (unfold SX.Ob; first | trivial | omega | ((try simp only [SX.inK]); (try simp [SX.den, SX.IsU8, *]); (try omega))), ?_⟩
      intro a17 w17 hr17' _
      have hr17 := h16.unbase hr17'
      have hb17 : Below w16.heap.size w16 w17 := by simpa [mutB] using hr17'.keeps.toBelow
      have hT17 := hT16.keep hb17
      refine post_call 16 [.ptr 0 b 0] hr17 (wanted_none rfl) rfl (callable 16 Try.func16) (used_ok w17 b _ hT17) ?_
      rintro e w18 ⟨rfl, hb18⟩
      refine ⟨_, rfl, ?_⟩
      have hT18 := hT17.keep hb18
      have hB18 : ∀ j, j < m → BV b w18 (vs j) (ns j) (gs j) := fun j hj => ((hB16 j hj).below hb17).below hb18
      have h18 := hr17.ret hb18 49 (.v (.int .i64 (((3 * (k + 1) : Nat) : Int)))) (by simp only [den]; congr 2) _ (hr17.all.below hb18) (by simp) rfl
      refine seg cfg7_ok mixed PanicFree.body 1000 [] [(54, false), (59, false), (64, false)] h18.rebase (by first | trivial | exact HpRep.nil | assumption) (by kernel_rfl) fun s_ hs_ => ?_
      simp [SX.vc, SX.stop, SX.contS, SX.contB, SX.contW, SX.contR, SX.contD, SX.sxStep, SX.stepPure, SX.stepNew, SX.stepStore, SX.stepKeep, SX.guardIx, SX.evOp, SX.opd, SX.opds, SX.optOpd, SX.look, SX.putS, SX.gobs, SX.AllP, SX.leave, SX.lookC, SX.lookB, SX.lookT, SX.lookN, SX.findK, SX.evBuiltin, SX.ints, SX.foldI, SX.evBin, SX.evInt, SX.evStr, SX.evEq, SX.arith, SX.evLoad, SX.shapeUp, SX.evFieldAddr, SX.evField, SX.evIndexAddr, SX.evIndex, SX.evFill, SX.evBuild, SX.szs, SX.cellsV, SX.evNew, SX.evStore, SX.spliceL, SX.SV.cells, SX.evConv, SX.evSlice, SX.bnd, SX.evNil, SX.evUn, SX.evPick, SX.pickOpd, SX.popTo, SX.cnd, SX.env0, SX.TD.isAgg, SX.TD.isIface, SX.tails, SX.NotAgg, SX.evLookup, SX.evConvH, SX.evPtrEq, SX.isCells, Go.Value.cells, cfg7]
      refine ⟨by (unfold SX.Ob; first | trivial | omega | ((try simp only [SX.inK]); (try simp [SX.den, SX.IsU8, *]); (try omega))), ?_⟩
      intro a19 w19 hr19' _
      have hr19 := h18.unbase hr19'
      have hb19 : Below w18.heap.size w18 w19 := by simpa [mutB] using hr19'.keeps.toBelow
      have hT19 := hT18.keep hb19
      have hB19 : ∀ j, j < m → BV b w19 (vs j) (ns j) (gs j) := fun j hj => (hB18 j hj).below hb19
      refine post_call 10 [] hr19 (wanted_zero (hr19.env.same rfl rfl rfl rfl) rfl (by simp)) rfl (callable 10 Try.func10) (new_ok w19) ?_
      rintro e w20 ⟨b2, rfl, hbz2, hT20b, hb20⟩
      refine ⟨_, rfl, ?_⟩
      have hz19 : w.heap.size ≤ w19.heap.size := hr19.keeps.size
      have hM2 : ∀ x ∈ [b2], (frame0 w).B ≤ x ∨ x ∈ (frame0 w).M := fun x hx => .inl (by simp at hx; subst hx; show w.heap.size ≤ x; omega)
      have hT20 := hT19.keep hb20
      have hB20 : ∀ j, j < m → BV b w20 (vs j) (ns j) (gs j) := fun j hj => (hB19 j hj).below hb20
      have hB20b : ∀ j, j < m → BV b2 w20 (vs j) (ns j) (gs j) := fun j hj => ((hB19 j hj).fresh hbz2).below hb20
      have hl19 := hT19.lt
      have hl20 := hT20b.lt
      have hlb19 := SO.rep_lt hr19.all.1.1
      have h20 := hr19.ret hb20 66 (.ptr 0 b2 0) rfl _ (hr19.all.below hb20) (by simp) rfl
      refine seg cfg7_ok mixed PanicFree.body 1000 [] [(54, false), (59, false), (64, false)] h20.rebase (by first | trivial | exact HpRep.nil | assumption) (by kernel_rfl) fun s_ hs_ => ?_
      simp [SX.vc, SX.stop, SX.contS, SX.contB, SX.contW, SX.contR, SX.contD, SX.sxStep, SX.stepPure, SX.stepNew, SX.stepStore, SX.stepKeep, SX.guardIx, SX.evOp, SX.opd, SX.opds, SX.optOpd, SX.look, SX.putS, SX.gobs, SX.AllP, SX.leave, SX.lookC, SX.lookB, SX.lookT, SX.lookN, SX.findK, SX.evBuiltin, SX.ints, SX.foldI, SX.evBin, SX.evInt, SX.evStr, SX.evEq, SX.arith, SX.evLoad, SX.shapeUp, SX.evFieldAddr, SX.evField, SX.evIndexAddr, SX.evIndex, SX.evFill, SX.evBuild, SX.szs, SX.cellsV, SX.evNew, SX.evStore, SX.spliceL, SX.SV.cells, SX.evConv, SX.evSlice, SX.bnd, SX.evNil, SX.evUn, SX.evPick, SX.pickOpd, SX.popTo, SX.cnd, SX.env0, SX.TD.isAgg, SX.TD.isIface, SX.tails, SX.NotAgg, SX.evLookup, SX.evConvH, SX.evPtrEq, SX.isCells, Go.Value.cells, cfg7, hv]
      refine ⟨by (unfold SX.Ob; first | trivial | omega | ((try simp only [SX.inK]); (try simp [SX.den, SX.IsU8, *]); (try omega))), ?_⟩
      intro a21 w21 hr21' _
      obtain ⟨s_2, hs22⟩ : ∃ x, x = s_ := ⟨_, rfl⟩
      subst hs22
      have hr21 := h20.unbase hr21'
      have hb21 : Below w20.heap.size w20 w21 := by simpa [mutB] using hr21'.keeps.toBelow
      have hT21 := hT20.keep hb21
      have hT21b := hT20b.keep hb21
      have hB21 : ∀ j, j < m → BV b w21 (vs j) (ns j) (gs j) := fun j hj => (hB20 j hj).below hb21
      have hB21b : ∀ j, j < m → BV b2 w21 (vs j) (ns j) (gs j) := fun j hj => (hB20b j hj).below hb21
      have hA21 := hr21.all
      have hL21 : LV b2 w21 (.slice (some ⟨s_2, 0, none⟩) 1 1) 1 (fun _ => ns k) (fun _ => gs k) := LV.one (Nat.le_refl _) (by omega) hA21.2.1.1 rfl (by rw [← hv]; exact hB21b k hlt) hnk
      refine post_call 11 [.ptr 0 b2 0, .sl 1 s_2 0 0 1 1 1] hr21 (wanted_zero (hr21.env.same rfl rfl rfl rfl) rfl (by simp)) rfl (callable 11 Try.func11) (sum_ok w21 b2 _ hT21b (by unfold inK; omega) _ 1 _ _ hL21 (by omega)) ?_
      rintro e w22 ⟨he, hk22, hT22⟩
      have he' : e = .returned (.int .u32 (rv x)) := by rw [he, hx]; rfl
      subst he'
      clear he
      refine ⟨_, rfl, ?_⟩
      have hT22a := hT21.keepK hk22 (by simp; omega)
      have hB22 : ∀ j, j < m → BV b w22 (vs j) (ns j) (gs j) := fun j hj => (hB21 j hj).keep2 (hB21b j hj) hk22
      have h22 := hr21.retK hk22 hM2 69 (.v (.int .u32 (rv x))) rfl [(lb, false, .arr o0 N (fun j => [.v (vs j)]) 1 t fz)] ⟨⟨hk22.same hA21.1.1 (by simp; omega), by simp, by simp⟩, trivial⟩ (by simp) rfl
      refine seg cfg7_ok mixed PanicFree.body 1000 [false] [(54, false), (59, false), (64, false)] h22.rebase (by first | trivial | exact HpRep.nil | assumption) (by kernel_rfl) fun s_ hs_ => ?_
      simp [SX.vc, SX.stop, SX.contS, SX.contB, SX.contW, SX.contR, SX.contD, SX.sxStep, SX.stepPure, SX.stepNew, SX.stepStore, SX.stepKeep, SX.guardIx, SX.evOp, SX.opd, SX.opds, SX.optOpd, SX.look, SX.putS, SX.gobs, SX.AllP, SX.leave, SX.lookC, SX.lookB, SX.lookT, SX.lookN, SX.findK, SX.evBuiltin, SX.ints, SX.foldI, SX.evBin, SX.evInt, SX.evStr, SX.evEq, SX.arith, SX.evLoad, SX.shapeUp, SX.evFieldAddr, SX.evField, SX.evIndexAddr, SX.evIndex, SX.evFill, SX.evBuild, SX.szs, SX.cellsV, SX.evNew, SX.evStore, SX.spliceL, SX.SV.cells, SX.evConv, SX.evSlice, SX.bnd, SX.evNil, SX.evUn, SX.evPick, SX.pickOpd, SX.popTo, SX.cnd, SX.env0, SX.TD.isAgg, SX.TD.isIface, SX.tails, SX.NotAgg, SX.evLookup, SX.evConvH, SX.evPtrEq, SX.isCells, Go.Value.cells, cfg7]
      refine ⟨by (unfold SX.Ob; first | trivial | omega | ((try simp only [SX.inK]); (try simp [SX.den, SX.IsU8, *]); (try omega))), ?_⟩
      intro a23 w23 hr23' _
      have hr23 := h22.unbase hr23'
      have hb23 : Below w22.heap.size w22 w23 := by simpa [mutB] using hr23'.keeps.toBelow
      have e3 : ((3 * k : Nat) : Int) + 1 + 1 + 1 = ((3 * (k + 1) : Nat) : Int) := by omega
      have hT23 := hT22a.keep hb23
      rw [e3] at hT23
      exact post_rnd (m - (k + 1)) (by omega) ⟨k + 1, rfl, hlt, hT23, fun j hj => ⟨(hB22 j hj).below hb23, (hB10 j hj).2⟩, hr23.re (by simp [envTo, SX.look, den]) hr23.all rfl rfl⟩
    · obtain rfl : k = m := by omega
      refine seg cfg7_ok mixed PanicFree.body 1000 [false] [] hr10.rebase (by first | trivial | exact HpRep.nil | assumption) (by kernel_rfl) fun s_ hs_ => ?_
      simp [SX.vc, SX.stop, SX.contS, SX.contB, SX.contW, SX.contR, SX.contD, SX.sxStep, SX.stepPure, SX.stepNew, SX.stepStore, SX.stepKeep, SX.guardIx, SX.evOp, SX.opd, SX.opds, SX.optOpd, SX.look, SX.putS, SX.gobs, SX.AllP, SX.leave, SX.lookC, SX.lookB, SX.lookT, SX.lookN, SX.findK, SX.evBuiltin, SX.ints, SX.foldI, SX.evBin, SX.evInt, SX.evStr, SX.evEq, SX.arith, SX.evLoad, SX.shapeUp, SX.evFieldAddr, SX.evField, SX.evIndexAddr, SX.evIndex, SX.evFill, SX.evBuild, SX.szs, SX.cellsV, SX.evNew, SX.evStore, SX.spliceL, SX.SV.cells, SX.evConv, SX.evSlice, SX.bnd, SX.evNil, SX.evUn, SX.evPick, SX.pickOpd, SX.popTo, SX.cnd, SX.env0, SX.TD.isAgg, SX.TD.isIface, SX.tails, SX.NotAgg, SX.evLookup, SX.evConvH, SX.evPtrEq, SX.isCells, Go.Value.cells, cfg7]
      refine ⟨by (unfold SX.Ob; first | trivial | omega | ((try simp only [SX.inK]); (try simp [SX.den, SX.IsU8, *]); (try omega))), ?_⟩
      intro a11 w11 hr11' _
      have hr11 := hr10.unbase hr11'
      have hT11 := hT10.keep (by simpa [mutB] using hr11'.keeps.toBelow)
      have hj := join_ok w11 b _ hT11 (by unfold inK; omega) 1#32 2#32 nn (by omega)
      rw [rv_1, rv_2] at hj
      refine post_call 15 [.ptr 0 b 0, .v (.int .u32 1), .v (.int .u32 2), .v (.int .i64 nn)] hr11 (wanted_none rfl) rfl (callable 15 Try.func15) hj ?_
      rintro e w12 ⟨rfl, hk12, hT12⟩
      refine ⟨_, rfl, ?_⟩
      have h12 := hr11.retK hk12 hM 75 (.v (.int .u32 (rv (fN (8 * nn) 1#32 ^^^ 2#32)))) rfl [] trivial (by simp) rfl
      refine seg cfg7_ok mixed PanicFree.body 1000 [] [(77, true)] h12.rebase (by first | trivial | exact HpRep.nil | assumption) (by kernel_rfl) fun s_ hs_ => ?_
      simp [SX.vc, SX.stop, SX.contS, SX.contB, SX.contW, SX.contR, SX.contD, SX.sxStep, SX.stepPure, SX.stepNew, SX.stepStore, SX.stepKeep, SX.guardIx, SX.evOp, SX.opd, SX.opds, SX.optOpd, SX.look, SX.putS, SX.gobs, SX.AllP, SX.leave, SX.lookC, SX.lookB, SX.lookT, SX.lookN, SX.findK, SX.evBuiltin, SX.ints, SX.foldI, SX.evBin, SX.evInt, SX.evStr, SX.evEq, SX.arith, SX.evLoad, SX.shapeUp, SX.evFieldAddr, SX.evField, SX.evIndexAddr, SX.evIndex, SX.evFill, SX.evBuild, SX.szs, SX.cellsV, SX.evNew, SX.evStore, SX.spliceL, SX.SV.cells, SX.evConv, SX.evSlice, SX.bnd, SX.evNil, SX.evUn, SX.evPick, SX.pickOpd, SX.popTo, SX.cnd, SX.env0, SX.TD.isAgg, SX.TD.isIface, SX.tails, SX.NotAgg, SX.evLookup, SX.evConvH, SX.evPtrEq, SX.isCells, Go.Value.cells, cfg7]
      refine ⟨by (unfold SX.Ob; first | trivial | omega | ((try simp only [SX.inK]); (try simp [SX.den, SX.IsU8, *]); (try omega))), ?_⟩
      intro a13 w13 hr13' _
      have hr13 := h12.unbase hr13'
      have hT13 := hT12.keep (by simpa [mutB] using hr13'.keeps.toBelow)
      refine post_call 16 [.ptr 0 b 0] hr13 (wanted_zero (hr13.env.same rfl rfl rfl rfl) rfl (by simp)) rfl (callable 16 Try.func16) (used_ok w13 b _ hT13) ?_
      rintro e w14 ⟨rfl, hb14⟩
      refine ⟨_, rfl, ?_⟩
      have h14 := hr13.ret hb14 79 (.v (.int .i64 (((3 * k : Nat) : Int) + 1))) rfl [] trivial (by simp) rfl
      refine seg cfg7_ok mixed PanicFree.body 1000 [] [(77, true)] h14 (by first | trivial | exact HpRep.nil | assumption) (by kernel_rfl) fun s_ hs_ => ?_
      simp [SX.vc, SX.stop, SX.contS, SX.contB, SX.contW, SX.contR, SX.contD, SX.sxStep, SX.stepPure, SX.stepNew, SX.stepStore, SX.stepKeep, SX.guardIx, SX.evOp, SX.opd, SX.opds, SX.optOpd, SX.look, SX.putS, SX.gobs, SX.AllP, SX.leave, SX.lookC, SX.lookB, SX.lookT, SX.lookN, SX.findK, SX.evBuiltin, SX.ints, SX.foldI, SX.evBin, SX.evInt, SX.evStr, SX.evEq, SX.arith, SX.evLoad, SX.shapeUp, SX.evFieldAddr, SX.evField, SX.evIndexAddr, SX.evIndex, SX.evFill, SX.evBuild, SX.szs, SX.cellsV, SX.evNew, SX.evStore, SX.spliceL, SX.SV.cells, SX.evConv, SX.evSlice, SX.bnd, SX.evNil, SX.evUn, SX.evPick, SX.pickOpd, SX.popTo, SX.cnd, SX.env0, SX.TD.isAgg, SX.TD.isIface, SX.tails, SX.NotAgg, SX.evLookup, SX.evConvH, SX.evPtrEq, SX.isCells, Go.Value.cells, cfg7]
      refine ⟨by (unfold SX.Ob; first | trivial | omega | ((try simp only [SX.inK]); (try simp [SX.den, SX.IsU8, *]); (try omega))), ?_⟩
      intro a15 w15 hr15 _
      exact post_retn (end1 hr15 rfl rfl ⟨by simp [den], hr15.keeps.toBelow⟩).1
end Go.Proofs
