/- The law CrcSums, walked. -/
import Derived.Test.YtcepnjkcdkkdpaaRQ
namespace Go.Proofs
set_option linter.unusedVariables false
set_option linter.unusedSimpArgs false
open Go Go.SX Go.RowKit Go.Crc

theorem LV.below {b : Nat} {w w' : World} {v : Value} {m : Nat} {ns : Nat → Nat} {gs : Nat → Nat → BitVec 8} (h : LV b w v m ns gs) (hb : Below w.heap.size w w') : LV b w' v m ns gs := h.keep (KeepsTo.below hb _)

/-- The list of one text that a walk has just built. -/
theorem LB.one {w : World} {lb : Nat} {v : Value} {n : Nat} {row : Nat → List SV} {N cap : Nat} {u : TypeId} {fz : Nat × Nat} (hN : 1 ≤ N) (hr : (SO.arr 0 N row 1 u fz).rep w lb) (hv : denL (row 0) = [v]) (hs : ∃ a c, v = .slice a n c) :
    LB w (.slice (some ⟨lb, 0, none⟩) 1 cap) 1 (fun _ => n) := by
  refine .inr ⟨by omega, lb, 0, 1, cap, u, fz, fun _ => v, rfl, Nat.le_refl _, rep_arr_sub hr hN fun j hj => ?_, fun j hj => hs⟩
  obtain rfl : j = 0 := by omega
  rw [hv]; rfl

theorem BV.slice {b : Nat} {w : World} {v : Value} {n : Nat} {g : Nat → BitVec 8} (h : BV b w v n g) : ∃ a c, v = .slice a n c := by
  rcases h with ⟨rfl, a, c, e⟩ | ⟨_, bb, o0, N, c, _, _, _, e, _⟩
  · exact ⟨a, c, e⟩
  · exact ⟨_, _, e⟩

set_option maxRecDepth 100000 in
set_option maxHeartbeats 16000000 in
theorem sums_ok (w : World) (vl vb : Value) (c : BitVec 32) (m : Nat) (ns : Nat → Nat) (gs : Nat → Nat → BitVec 8) (n : Nat) (g : Nat → BitVec 8) (hL : ∀ b, w.heap.size ≤ b → LV b w vl m ns gs) (hB : ∀ b, w.heap.size ≤ b → BV b w vb n g) (hm : m ≤ 9223372036854775807) (hn : n ≤ 9223372036854775807) :
    Calls Try.prog 5 (denL [.v vl, .v (.int .u32 (rv c)), .v vb]).toArray w (LivePost w) := by
  obtain ⟨va, vc, rfl⟩ := (hB w.heap.size (Nat.le_refl _)).slice
  refine enter (F := frame0 w) Try.func5 rfl [.v vl, .v (.int .u32 (rv c)), .v (.slice va n vc)] [] (by simp [Try.f5]) trivial (keeps0 w) fun a hr => ?_
  refine seg cfg5_ok mixed PanicFree.body 1000 [] [] hr (by first | trivial | exact HpRep.nil | assumption) (by kernel_rfl) fun s_ hs_ => ?_
  simp (maxSteps := 10000000) [SX.vc, SX.stop, SX.contS, SX.contB, SX.contW, SX.contR, SX.contD, SX.sxStep, SX.stepPure, SX.stepNew, SX.stepStore, SX.stepKeep, SX.guardIx, SX.evOp, SX.opd, SX.opds, SX.optOpd, SX.look, SX.putS, SX.gobs, SX.AllP, SX.leave, SX.lookC, SX.lookB, SX.lookT, SX.lookN, SX.findK, SX.evBuiltin, SX.ints, SX.foldI, SX.evBin, SX.evInt, SX.evStr, SX.evEq, SX.arith, SX.evLoad, SX.shapeUp, SX.evFieldAddr, SX.evField, SX.evIndexAddr, SX.evIndex, SX.evFill, SX.evBuild, SX.szs, SX.cellsV, SX.evNew, SX.evStore, SX.spliceL, SX.SV.cells, SX.evConv, SX.evSlice, SX.bnd, SX.evNil, SX.evUn, SX.evPick, SX.pickOpd, SX.popTo, SX.cnd, SX.env0, SX.TD.isAgg, SX.TD.isIface, SX.tails, SX.NotAgg, SX.evLookup, SX.evConvH, SX.evPtrEq, SX.isCells, Go.Value.cells, cfg5, Try.f5]
  refine ⟨by (unfold SX.Ob; first | trivial | omega | ((try simp only [SX.inK]); (try simp [SX.den, SX.IsU8, *]); (try omega))), ?_⟩
  intro a1 w1 hr1 _
  refine post_call 8 [] hr1 (wanted_none rfl) rfl (callable 8 Try.func8) (live_ok w1) ?_
  rintro e w2 ⟨rfl, hb2⟩
  refine ⟨_, rfl, ?_⟩
  have h2 := hr1.ret hb2 9 (.v (.bool true)) rfl [] trivial (by simp) rfl
  refine seg cfg5_ok mixed PanicFree.body 1000 [] [] h2 (by first | trivial | exact HpRep.nil | assumption) (by kernel_rfl) fun s_ hs_ => ?_
  simp (maxSteps := 10000000) [SX.vc, SX.stop, SX.contS, SX.contB, SX.contW, SX.contR, SX.contD, SX.sxStep, SX.stepPure, SX.stepNew, SX.stepStore, SX.stepKeep, SX.guardIx, SX.evOp, SX.opd, SX.opds, SX.optOpd, SX.look, SX.putS, SX.gobs, SX.AllP, SX.leave, SX.lookC, SX.lookB, SX.lookT, SX.lookN, SX.findK, SX.evBuiltin, SX.ints, SX.foldI, SX.evBin, SX.evInt, SX.evStr, SX.evEq, SX.arith, SX.evLoad, SX.shapeUp, SX.evFieldAddr, SX.evField, SX.evIndexAddr, SX.evIndex, SX.evFill, SX.evBuild, SX.szs, SX.cellsV, SX.evNew, SX.evStore, SX.spliceL, SX.SV.cells, SX.evConv, SX.evSlice, SX.bnd, SX.evNil, SX.evUn, SX.evPick, SX.pickOpd, SX.popTo, SX.cnd, SX.env0, SX.TD.isAgg, SX.TD.isIface, SX.tails, SX.NotAgg, SX.evLookup, SX.evConvH, SX.evPtrEq, SX.isCells, Go.Value.cells, cfg5]
  refine ⟨by (unfold SX.Ob; first | trivial | omega | ((try simp only [SX.inK]); (try simp [SX.den, SX.IsU8, *]); (try omega))), ?_⟩
  intro a3 w3 hr3 _
  have hL3 : ∀ b, w.heap.size ≤ b → LV b w3 vl m ns gs := fun b h => (hL b h).below hr3.keeps.toBelow
  have hB3 : ∀ b, w.heap.size ≤ b → BV b w3 (.slice va n vc) n g := fun b h => (hB b h).below hr3.keeps.toBelow
  refine post_call 9 [.v vl] hr3 (wanted_none rfl) rfl (callable 9 Try.func9) (big_ok w3 vl m ns (hL3 _ (Nat.le_refl _)).lens hm) ?_
  rintro e w4 ⟨rfl, hb4⟩
  refine ⟨_, rfl, ?_⟩
  have h4 := hr3.ret hb4 11 (.v (.bool (decide (bigX ns m > 20000)))) rfl [] trivial (by simp) rfl
  by_cases ht : bigX ns m > 20000
  · refine seg cfg5_ok mixed PanicFree.body 1000 [true] [(12, true)] h4 (by first | trivial | exact HpRep.nil | assumption) (by kernel_rfl) fun s_ hs_ => ?_
    simp (maxSteps := 10000000) [SX.vc, SX.stop, SX.contS, SX.contB, SX.contW, SX.contR, SX.contD, SX.sxStep, SX.stepPure, SX.stepNew, SX.stepStore, SX.stepKeep, SX.guardIx, SX.evOp, SX.opd, SX.opds, SX.optOpd, SX.look, SX.putS, SX.gobs, SX.AllP, SX.leave, SX.lookC, SX.lookB, SX.lookT, SX.lookN, SX.findK, SX.evBuiltin, SX.ints, SX.foldI, SX.evBin, SX.evInt, SX.evStr, SX.evEq, SX.arith, SX.evLoad, SX.shapeUp, SX.evFieldAddr, SX.evField, SX.evIndexAddr, SX.evIndex, SX.evFill, SX.evBuild, SX.szs, SX.cellsV, SX.evNew, SX.evStore, SX.spliceL, SX.SV.cells, SX.evConv, SX.evSlice, SX.bnd, SX.evNil, SX.evUn, SX.evPick, SX.pickOpd, SX.popTo, SX.cnd, SX.env0, SX.TD.isAgg, SX.TD.isIface, SX.tails, SX.NotAgg, SX.evLookup, SX.evConvH, SX.evPtrEq, SX.isCells, Go.Value.cells, cfg5, ht]
    refine ⟨by (unfold SX.Ob; first | trivial | omega | ((try simp only [SX.inK]); (try simp [SX.den, SX.IsU8, *]); (try omega))), ?_⟩
    intro a5 w5 hr5 _
    exact post_retn (end1 hr5 rfl rfl ⟨rfl, hr5.keeps.toBelow⟩).1
  refine seg cfg5_ok mixed PanicFree.body 1000 [] [(12, false)] h4 (by first | trivial | exact HpRep.nil | assumption) (by kernel_rfl) fun s_ hs_ => ?_
  simp (maxSteps := 10000000) [SX.vc, SX.stop, SX.contS, SX.contB, SX.contW, SX.contR, SX.contD, SX.sxStep, SX.stepPure, SX.stepNew, SX.stepStore, SX.stepKeep, SX.guardIx, SX.evOp, SX.opd, SX.opds, SX.optOpd, SX.look, SX.putS, SX.gobs, SX.AllP, SX.leave, SX.lookC, SX.lookB, SX.lookT, SX.lookN, SX.findK, SX.evBuiltin, SX.ints, SX.foldI, SX.evBin, SX.evInt, SX.evStr, SX.evEq, SX.arith, SX.evLoad, SX.shapeUp, SX.evFieldAddr, SX.evField, SX.evIndexAddr, SX.evIndex, SX.evFill, SX.evBuild, SX.szs, SX.cellsV, SX.evNew, SX.evStore, SX.spliceL, SX.SV.cells, SX.evConv, SX.evSlice, SX.bnd, SX.evNil, SX.evUn, SX.evPick, SX.pickOpd, SX.popTo, SX.cnd, SX.env0, SX.TD.isAgg, SX.TD.isIface, SX.tails, SX.NotAgg, SX.evLookup, SX.evConvH, SX.evPtrEq, SX.isCells, Go.Value.cells, cfg5, ht]
  refine ⟨by (unfold SX.Ob; first | trivial | omega | ((try simp only [SX.inK]); (try simp [SX.den, SX.IsU8, *]); (try omega))), ?_⟩
  intro a5 w5 hr5 _
  have hB5 : ∀ b, w.heap.size ≤ b → BV b w5 (.slice va n vc) n g := fun b h => (hB b h).below hr5.keeps.toBelow
  refine post_call 9 [.sl 0 s_ 0 0 1 1 1] hr5 (wanted_zero (hr5.env.same rfl rfl rfl rfl) rfl (by simp [ht])) rfl (callable 9 Try.func9) (big_ok w5 _ 1 _ (LB.one (Nat.le_refl _) hr5.all.1.1 rfl (hB5 _ (Nat.le_refl _)).slice) (by omega)) ?_
  rintro e w6 ⟨rfl, hb6⟩
  refine ⟨_, rfl, ?_⟩
  have h6 := hr5.ret hb6 15 (.v (.bool (decide (bigX (fun _ => n) 1 > 20000)))) rfl [] trivial (by simp) rfl
  by_cases ht2 : bigX (fun _ => n) 1 > 20000
  · refine seg cfg5_ok mixed PanicFree.body 1000 [true] [(12, false)] h6 (by first | trivial | exact HpRep.nil | assumption) (by kernel_rfl) fun s_ hs_ => ?_
    simp (maxSteps := 10000000) [SX.vc, SX.stop, SX.contS, SX.contB, SX.contW, SX.contR, SX.contD, SX.sxStep, SX.stepPure, SX.stepNew, SX.stepStore, SX.stepKeep, SX.guardIx, SX.evOp, SX.opd, SX.opds, SX.optOpd, SX.look, SX.putS, SX.gobs, SX.AllP, SX.leave, SX.lookC, SX.lookB, SX.lookT, SX.lookN, SX.findK, SX.evBuiltin, SX.ints, SX.foldI, SX.evBin, SX.evInt, SX.evStr, SX.evEq, SX.arith, SX.evLoad, SX.shapeUp, SX.evFieldAddr, SX.evField, SX.evIndexAddr, SX.evIndex, SX.evFill, SX.evBuild, SX.szs, SX.cellsV, SX.evNew, SX.evStore, SX.spliceL, SX.SV.cells, SX.evConv, SX.evSlice, SX.bnd, SX.evNil, SX.evUn, SX.evPick, SX.pickOpd, SX.popTo, SX.cnd, SX.env0, SX.TD.isAgg, SX.TD.isIface, SX.tails, SX.NotAgg, SX.evLookup, SX.evConvH, SX.evPtrEq, SX.isCells, Go.Value.cells, cfg5, ht2]
    refine ⟨by (unfold SX.Ob; first | trivial | omega | ((try simp only [SX.inK]); (try simp [SX.den, SX.IsU8, *]); (try omega))), ?_⟩
    intro a7 w7 hr7 _
    exact post_retn (end1 hr7 rfl rfl ⟨rfl, hr7.keeps.toBelow⟩).1
  refine seg cfg5_ok mixed PanicFree.body 1000 [false] [(12, false)] h6 (by first | trivial | exact HpRep.nil | assumption) (by kernel_rfl) fun s_ hs_ => ?_
  simp (maxSteps := 10000000) [SX.vc, SX.stop, SX.contS, SX.contB, SX.contW, SX.contR, SX.contD, SX.sxStep, SX.stepPure, SX.stepNew, SX.stepStore, SX.stepKeep, SX.guardIx, SX.evOp, SX.opd, SX.opds, SX.optOpd, SX.look, SX.putS, SX.gobs, SX.AllP, SX.leave, SX.lookC, SX.lookB, SX.lookT, SX.lookN, SX.findK, SX.evBuiltin, SX.ints, SX.foldI, SX.evBin, SX.evInt, SX.evStr, SX.evEq, SX.arith, SX.evLoad, SX.shapeUp, SX.evFieldAddr, SX.evField, SX.evIndexAddr, SX.evIndex, SX.evFill, SX.evBuild, SX.szs, SX.cellsV, SX.evNew, SX.evStore, SX.spliceL, SX.SV.cells, SX.evConv, SX.evSlice, SX.bnd, SX.evNil, SX.evUn, SX.evPick, SX.pickOpd, SX.popTo, SX.cnd, SX.env0, SX.TD.isAgg, SX.TD.isIface, SX.tails, SX.NotAgg, SX.evLookup, SX.evConvH, SX.evPtrEq, SX.isCells, Go.Value.cells, cfg5, ht2]
  refine ⟨by (unfold SX.Ob; first | trivial | omega | ((try simp only [SX.inK]); (try simp [SX.den, SX.IsU8, *]); (try omega))), ?_⟩
  intro a7 w7 hr7 _
  have hz7 : w.heap.size ≤ w7.heap.size := hr7.keeps.size
  refine post_call 10 [] hr7 (wanted_none rfl) rfl (callable 10 Try.func10) (new_ok w7) ?_
  rintro e w8 ⟨b, rfl, hbz, hT8, hb8⟩
  have hwb : w.heap.size ≤ b := by omega
  have hM : ∀ x ∈ [b], (frame0 w).B ≤ x ∨ x ∈ (frame0 w).M := fun x hx => .inl (by simp at hx; subst hx; exact hwb)
  have hL8 : LV b w8 vl m ns gs := ((hL b hwb).below hr7.keeps.toBelow).below hb8
  have hB8 : BV b w8 (.slice va n vc) n g := ((hB b hwb).below hr7.keeps.toBelow).below hb8
  clear hL hB hL3 hB3 hB5
  refine ⟨_, rfl, ?_⟩
  have h8 := hr7.ret hb8 18 (.ptr 0 b 0) rfl [] trivial (by simp) rfl
  refine seg cfg5_ok mixed PanicFree.body 1000 [] [(20, true)] h8.rebase (by first | trivial | exact HpRep.nil | assumption) (by kernel_rfl) fun s_ hs_ => ?_
  simp (maxSteps := 10000000) [SX.vc, SX.stop, SX.contS, SX.contB, SX.contW, SX.contR, SX.contD, SX.sxStep, SX.stepPure, SX.stepNew, SX.stepStore, SX.stepKeep, SX.guardIx, SX.evOp, SX.opd, SX.opds, SX.optOpd, SX.look, SX.putS, SX.gobs, SX.AllP, SX.leave, SX.lookC, SX.lookB, SX.lookT, SX.lookN, SX.findK, SX.evBuiltin, SX.ints, SX.foldI, SX.evBin, SX.evInt, SX.evStr, SX.evEq, SX.arith, SX.evLoad, SX.shapeUp, SX.evFieldAddr, SX.evField, SX.evIndexAddr, SX.evIndex, SX.evFill, SX.evBuild, SX.szs, SX.cellsV, SX.evNew, SX.evStore, SX.spliceL, SX.SV.cells, SX.evConv, SX.evSlice, SX.bnd, SX.evNil, SX.evUn, SX.evPick, SX.pickOpd, SX.popTo, SX.cnd, SX.env0, SX.TD.isAgg, SX.TD.isIface, SX.tails, SX.NotAgg, SX.evLookup, SX.evConvH, SX.evPtrEq, SX.isCells, Go.Value.cells, cfg5]
  refine ⟨by (unfold SX.Ob; first | trivial | omega | ((try simp only [SX.inK]); (try simp [SX.den, SX.IsU8, *]); (try omega))), ?_⟩
  intro a9 w9 hr9' _
  have hr9 := h8.unbase hr9'
  have hb9 : Below w8.heap.size w8 w9 := by simpa [mutB] using hr9'.keeps.toBelow
  have hT9 := hT8.keep hb9
  have hL9 := hL8.below hb9
  have hB9 := hB8.below hb9
  refine post_call 11 [.ptr 0 b 0, .v vl] hr9 (wanted_zero (hr9.env.same rfl rfl rfl rfl) rfl (by simp)) rfl (callable 11 Try.func11) (sum_ok w9 b 0 hT9 (by unfold inK; omega) vl m ns gs hL9 hm) ?_
  rintro e w10 ⟨rfl, hk10, hT10⟩
  refine ⟨_, rfl, ?_⟩
  have hL10 := hL9.keep hk10
  have hB10 := hB9.keep hk10
  have h10 := hr9.retK hk10 hM 23 (.v (.int .u32 (rv (~~~ sumN ns gs m)))) rfl [] trivial (by simp) rfl
  refine seg cfg5_ok mixed PanicFree.body 1000 [] [(20, true)] h10.rebase (by first | trivial | exact HpRep.nil | assumption) (by kernel_rfl) fun s_ hs_ => ?_
  simp (maxSteps := 10000000) [SX.vc, SX.stop, SX.contS, SX.contB, SX.contW, SX.contR, SX.contD, SX.sxStep, SX.stepPure, SX.stepNew, SX.stepStore, SX.stepKeep, SX.guardIx, SX.evOp, SX.opd, SX.opds, SX.optOpd, SX.look, SX.putS, SX.gobs, SX.AllP, SX.leave, SX.lookC, SX.lookB, SX.lookT, SX.lookN, SX.findK, SX.evBuiltin, SX.ints, SX.foldI, SX.evBin, SX.evInt, SX.evStr, SX.evEq, SX.arith, SX.evLoad, SX.shapeUp, SX.evFieldAddr, SX.evField, SX.evIndexAddr, SX.evIndex, SX.evFill, SX.evBuild, SX.szs, SX.cellsV, SX.evNew, SX.evStore, SX.spliceL, SX.SV.cells, SX.evConv, SX.evSlice, SX.bnd, SX.evNil, SX.evUn, SX.evPick, SX.pickOpd, SX.popTo, SX.cnd, SX.env0, SX.TD.isAgg, SX.TD.isIface, SX.tails, SX.NotAgg, SX.evLookup, SX.evConvH, SX.evPtrEq, SX.isCells, Go.Value.cells, cfg5]
  refine ⟨by (unfold SX.Ob; first | trivial | omega | ((try simp only [SX.inK]); (try simp [SX.den, SX.IsU8, *]); (try omega))), ?_⟩
  intro a11 w11 hr11' _
  have hr11 := h10.unbase hr11'
  have hb11 : Below w10.heap.size w10 w11 := by simpa [mutB] using hr11'.keeps.toBelow
  refine post_call 12 [.v vl] hr11 (wanted_zero (hr11.env.same rfl rfl rfl rfl) rfl (by simp)) rfl (callable 12 Try.func12) (refSum_ok w11 b vl m ns gs (hL10.below hb11) hm) ?_
  rintro e w12 ⟨rfl, hb12⟩
  refine ⟨_, rfl, ?_⟩
  have hT12 := (hT10.keep hb11).keep hb12
  have hB12 := (hB10.below hb11).below hb12
  have h12 := hr11.ret hb12 25 (.v (.int .u32 (rv (~~~ sumN ns gs m)))) rfl [] trivial (by simp) rfl
  refine seg cfg5_ok mixed PanicFree.body 1000 [] [(20, true), (28, true)] h12.rebase (by first | trivial | exact HpRep.nil | assumption) (by kernel_rfl) fun s_ hs_ => ?_
  simp (maxSteps := 10000000) [SX.vc, SX.stop, SX.contS, SX.contB, SX.contW, SX.contR, SX.contD, SX.sxStep, SX.stepPure, SX.stepNew, SX.stepStore, SX.stepKeep, SX.guardIx, SX.evOp, SX.opd, SX.opds, SX.optOpd, SX.look, SX.putS, SX.gobs, SX.AllP, SX.leave, SX.lookC, SX.lookB, SX.lookT, SX.lookN, SX.findK, SX.evBuiltin, SX.ints, SX.foldI, SX.evBin, SX.evInt, SX.evStr, SX.evEq, SX.arith, SX.evLoad, SX.shapeUp, SX.evFieldAddr, SX.evField, SX.evIndexAddr, SX.evIndex, SX.evFill, SX.evBuild, SX.szs, SX.cellsV, SX.evNew, SX.evStore, SX.spliceL, SX.SV.cells, SX.evConv, SX.evSlice, SX.bnd, SX.evNil, SX.evUn, SX.evPick, SX.pickOpd, SX.popTo, SX.cnd, SX.env0, SX.TD.isAgg, SX.TD.isIface, SX.tails, SX.NotAgg, SX.evLookup, SX.evConvH, SX.evPtrEq, SX.isCells, Go.Value.cells, cfg5]
  refine ⟨by (unfold SX.Ob; first | trivial | omega | ((try simp only [SX.inK]); (try simp [SX.den, SX.IsU8, *]); (try omega))), ?_⟩
  intro a13 w13 hr13' _
  have hr13 := h12.unbase hr13'
  have hb13 : Below w12.heap.size w12 w13 := by simpa [mutB] using hr13'.keeps.toBelow
  refine post_call 13 [.ptr 0 b 0, .v (.int .u32 (rv c)), .v (.slice va n vc)] hr13 (wanted_zero (hr13.env.same rfl rfl rfl rfl) rfl (by simp)) rfl (callable 13 Try.func13) (update_ok w13 b _ (hT12.keep hb13) (by unfold inK; omega) c _ n g (hB12.below hb13) hn) ?_
  rintro e w14 ⟨rfl, hk14, hT14⟩
  refine ⟨_, rfl, ?_⟩
  have hB14 := (hB12.below hb13).keep hk14
  have h14 := hr13.retK hk14 hM 32 (.v (.int .u32 (rv (~~~ go (~~~ c) g n)))) rfl [] trivial (by simp) rfl
  refine seg cfg5_ok mixed PanicFree.body 1000 [] [(28, true)] h14.rebase (by first | trivial | exact HpRep.nil | assumption) (by kernel_rfl) fun s_ hs_ => ?_
  simp (maxSteps := 10000000) [SX.vc, SX.stop, SX.contS, SX.contB, SX.contW, SX.contR, SX.contD, SX.sxStep, SX.stepPure, SX.stepNew, SX.stepStore, SX.stepKeep, SX.guardIx, SX.evOp, SX.opd, SX.opds, SX.optOpd, SX.look, SX.putS, SX.gobs, SX.AllP, SX.leave, SX.lookC, SX.lookB, SX.lookT, SX.lookN, SX.findK, SX.evBuiltin, SX.ints, SX.foldI, SX.evBin, SX.evInt, SX.evStr, SX.evEq, SX.arith, SX.evLoad, SX.shapeUp, SX.evFieldAddr, SX.evField, SX.evIndexAddr, SX.evIndex, SX.evFill, SX.evBuild, SX.szs, SX.cellsV, SX.evNew, SX.evStore, SX.spliceL, SX.SV.cells, SX.evConv, SX.evSlice, SX.bnd, SX.evNil, SX.evUn, SX.evPick, SX.pickOpd, SX.popTo, SX.cnd, SX.env0, SX.TD.isAgg, SX.TD.isIface, SX.tails, SX.NotAgg, SX.evLookup, SX.evConvH, SX.evPtrEq, SX.isCells, Go.Value.cells, cfg5]
  refine ⟨by (unfold SX.Ob; first | trivial | omega | ((try simp only [SX.inK]); (try simp [SX.den, SX.IsU8, *]); (try omega))), ?_⟩
  intro a15 w15 hr15' _
  have hr15 := h14.unbase hr15'
  have hb15 : Below w14.heap.size w14 w15 := by simpa [mutB] using hr15'.keeps.toBelow
  refine post_call 14 [.v (.int .u32 (rv c)), .v (.slice va n vc)] hr15 (wanted_zero (hr15.env.same rfl rfl rfl rfl) rfl (by simp)) rfl (callable 14 Try.func14) (refUpdate_ok w15 b c _ n g (hB14.below hb15) hn) ?_
  rintro e w16 ⟨rfl, hb16⟩
  refine ⟨_, rfl, ?_⟩
  have hT16 := (hT14.keep hb15).keep hb16
  have hB16 := (hB14.below hb15).below hb16
  have h16 := hr15.ret hb16 35 (.v (.int .u32 (rv (~~~ go (~~~ c) g n)))) rfl [] trivial (by simp) rfl
  refine seg cfg5_ok mixed PanicFree.body 1000 [] [(28, true), (38, true)] h16.rebase (by first | trivial | exact HpRep.nil | assumption) (by kernel_rfl) fun s_ hs_ => ?_
  simp (maxSteps := 10000000) [SX.vc, SX.stop, SX.contS, SX.contB, SX.contW, SX.contR, SX.contD, SX.sxStep, SX.stepPure, SX.stepNew, SX.stepStore, SX.stepKeep, SX.guardIx, SX.evOp, SX.opd, SX.opds, SX.optOpd, SX.look, SX.putS, SX.gobs, SX.AllP, SX.leave, SX.lookC, SX.lookB, SX.lookT, SX.lookN, SX.findK, SX.evBuiltin, SX.ints, SX.foldI, SX.evBin, SX.evInt, SX.evStr, SX.evEq, SX.arith, SX.evLoad, SX.shapeUp, SX.evFieldAddr, SX.evField, SX.evIndexAddr, SX.evIndex, SX.evFill, SX.evBuild, SX.szs, SX.cellsV, SX.evNew, SX.evStore, SX.spliceL, SX.SV.cells, SX.evConv, SX.evSlice, SX.bnd, SX.evNil, SX.evUn, SX.evPick, SX.pickOpd, SX.popTo, SX.cnd, SX.env0, SX.TD.isAgg, SX.TD.isIface, SX.tails, SX.NotAgg, SX.evLookup, SX.evConvH, SX.evPtrEq, SX.isCells, Go.Value.cells, cfg5]
  refine ⟨by (unfold SX.Ob; first | trivial | omega | ((try simp only [SX.inK]); (try simp [SX.den, SX.IsU8, *]); (try omega))), ?_⟩
  intro a17 w17 hr17' _
  obtain ⟨s_1, hs11⟩ : ∃ x, x = s_ := ⟨_, rfl⟩
  subst hs11
  have hr17 := h16.unbase hr17'
  have hlt := hT16.lt
  have hb17 : Below w16.heap.size w16 w17 := by simpa [mutB] using hr17'.keeps.toBelow
  have hB17 := hB16.below hb17
  have hL17 : LV b w17 (.slice (some ⟨s_1, 0, none⟩) 1 1) 1 (fun _ => n) (fun _ => g) := LV.one (Nat.le_refl _) (by omega) hr17.all.1.1 rfl hB17 hn
  refine post_call 11 [.ptr 0 b 0, .sl 0 s_1 0 0 1 1 1] hr17 (wanted_zero (hr17.env.same rfl rfl rfl rfl) rfl (by simp)) rfl (callable 11 Try.func11) (sum_ok w17 b _ (hT16.keep hb17) (by unfold inK; omega) _ 1 _ _ hL17 (by omega)) ?_
  rintro e w18 ⟨rfl, hk18, hT18⟩
  refine ⟨_, rfl, ?_⟩
  have hB18 := hB17.keep hk18
  have h18 := hr17.retK hk18 hM 42 (.v (.int .u32 (rv (~~~ sumN (fun _ => n) (fun _ => g) 1)))) rfl [] trivial (by simp) rfl
  refine seg cfg5_ok mixed PanicFree.body 1000 [] [(38, true)] h18.rebase (by first | trivial | exact HpRep.nil | assumption) (by kernel_rfl) fun s_ hs_ => ?_
  simp (maxSteps := 10000000) [SX.vc, SX.stop, SX.contS, SX.contB, SX.contW, SX.contR, SX.contD, SX.sxStep, SX.stepPure, SX.stepNew, SX.stepStore, SX.stepKeep, SX.guardIx, SX.evOp, SX.opd, SX.opds, SX.optOpd, SX.look, SX.putS, SX.gobs, SX.AllP, SX.leave, SX.lookC, SX.lookB, SX.lookT, SX.lookN, SX.findK, SX.evBuiltin, SX.ints, SX.foldI, SX.evBin, SX.evInt, SX.evStr, SX.evEq, SX.arith, SX.evLoad, SX.shapeUp, SX.evFieldAddr, SX.evField, SX.evIndexAddr, SX.evIndex, SX.evFill, SX.evBuild, SX.szs, SX.cellsV, SX.evNew, SX.evStore, SX.spliceL, SX.SV.cells, SX.evConv, SX.evSlice, SX.bnd, SX.evNil, SX.evUn, SX.evPick, SX.pickOpd, SX.popTo, SX.cnd, SX.env0, SX.TD.isAgg, SX.TD.isIface, SX.tails, SX.NotAgg, SX.evLookup, SX.evConvH, SX.evPtrEq, SX.isCells, Go.Value.cells, cfg5]
  refine ⟨by (unfold SX.Ob; first | trivial | omega | ((try simp only [SX.inK]); (try simp [SX.den, SX.IsU8, *]); (try omega))), ?_⟩
  intro a19 w19 hr19' _
  obtain ⟨s_2, hs22⟩ : ∃ x, x = s_ := ⟨_, rfl⟩
  subst hs22
  have hr19 := h18.unbase hr19'
  have hlt2 := hT18.lt
  have hb19 : Below w18.heap.size w18 w19 := by simpa [mutB] using hr19'.keeps.toBelow
  have hL19 : LV b w19 (.slice (some ⟨s_2, 0, none⟩) 1 1) 1 (fun _ => n) (fun _ => g) := LV.one (Nat.le_refl _) (by omega) hr19.all.1.1 rfl (hB18.below hb19) hn
  refine post_call 12 [.sl 0 s_2 0 0 1 1 1] hr19 (wanted_zero (hr19.env.same rfl rfl rfl rfl) rfl (by simp)) rfl (callable 12 Try.func12) (refSum_ok w19 b _ 1 _ _ hL19 (by omega)) ?_
  rintro e w20 ⟨rfl, hb20⟩
  refine ⟨_, rfl, ?_⟩
  have h20 := hr19.ret hb20 45 (.v (.int .u32 (rv (~~~ sumN (fun _ => n) (fun _ => g) 1)))) rfl [] trivial (by simp) rfl
  refine seg cfg5_ok mixed PanicFree.body 1000 [] [(38, true)] h20 (by first | trivial | exact HpRep.nil | assumption) (by kernel_rfl) fun s_ hs_ => ?_
  simp (maxSteps := 10000000) [SX.vc, SX.stop, SX.contS, SX.contB, SX.contW, SX.contR, SX.contD, SX.sxStep, SX.stepPure, SX.stepNew, SX.stepStore, SX.stepKeep, SX.guardIx, SX.evOp, SX.opd, SX.opds, SX.optOpd, SX.look, SX.putS, SX.gobs, SX.AllP, SX.leave, SX.lookC, SX.lookB, SX.lookT, SX.lookN, SX.findK, SX.evBuiltin, SX.ints, SX.foldI, SX.evBin, SX.evInt, SX.evStr, SX.evEq, SX.arith, SX.evLoad, SX.shapeUp, SX.evFieldAddr, SX.evField, SX.evIndexAddr, SX.evIndex, SX.evFill, SX.evBuild, SX.szs, SX.cellsV, SX.evNew, SX.evStore, SX.spliceL, SX.SV.cells, SX.evConv, SX.evSlice, SX.bnd, SX.evNil, SX.evUn, SX.evPick, SX.pickOpd, SX.popTo, SX.cnd, SX.env0, SX.TD.isAgg, SX.TD.isIface, SX.tails, SX.NotAgg, SX.evLookup, SX.evConvH, SX.evPtrEq, SX.isCells, Go.Value.cells, cfg5]
  refine ⟨by (unfold SX.Ob; first | trivial | omega | ((try simp only [SX.inK]); (try simp [SX.den, SX.IsU8, *]); (try omega))), ?_⟩
  intro a21 w21 hr21 _
  exact post_retn (end1 hr21 rfl rfl ⟨by simp [den], hr21.keeps.toBelow⟩).1
end Go.Proofs
