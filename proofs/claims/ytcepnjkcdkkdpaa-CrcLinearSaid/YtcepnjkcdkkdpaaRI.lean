/- The sum of texts; how often a table was asked. -/
import Derived.Test.YtcepnjkcdkkdpaaRH
namespace Go.Proofs
set_option linter.unusedVariables false
set_option linter.unusedSimpArgs false
open Go Go.SX Go.RowKit Go.Crc

theorem TabRep.keep {w w' : World} {b : Nat} {u : Int} (h : TabRep w b u) (hb : Below w.heap.size w w') : TabRep w' b u := by
  obtain ⟨d, T, h1, h2, h3⟩ := h
  exact ⟨d, T, h1, h2, SO.rep_same h3 (hb.block b (SO.rep_lt h3))⟩
theorem TabRep.lt {w : World} {b : Nat} {u : Int} (h : TabRep w b u) : b < w.heap.size := by
  obtain ⟨d, T, h1, h2, h3⟩ := h
  exact SO.rep_lt h3
theorem TabRep.full {w : World} {b : Nat} {u : Int} (h : (SO.cells (tabC 1 0 tabI u) 55).rep w b) : TabRep w b u := ⟨1, tabI, .inr rfl, fun _ => rfl, h⟩
theorem BV.below {b : Nat} {w w' : World} {v : Value} {n : Nat} {g : Nat → BitVec 8} (h : BV b w v n g) (hb : Below w.heap.size w w') : BV b w' v n g := h.keep (KeepsTo.below hb _)

def ones : BitVec 32 := BitVec.allOnes 32
theorem rv_ones : rv ones = 4294967295 := by decide
theorem vnot' (a : BitVec 32) : bitv .xor .u32 (if IntKind.u32.signed = true then -1 else IntKind.u32.max) (rv a) = rv (~~~a) := vnot a

set_option maxRecDepth 100000 in
set_option maxHeartbeats 4000000 in
theorem add_ok (w : World) (c o : Nat) (l : List SV) (x d : Int) (hb : (SO.cells l 55).rep w c) (hl : l[o]? = some (.v (.int .i64 x))) (hin : inK (x + d)) :
    Calls Try.prog 17 (denL [.v (.pointer (some ⟨c, o, none⟩)), .v (.int .i64 d)]).toArray w fun e w' => e = .returned (.int .i64 (x + d)) ∧ KeepsTo w [c] w' ∧ (SO.cells (l.set o (.v (.int .i64 (x + d)))) 55).rep w' c := by
  have hE : HpAll ⟨w, w.heap.size, [c]⟩ w [(c, true, .cells l 55)] := ⟨⟨hb, by simp, by simp⟩, trivial⟩
  refine enter (F := ⟨w, w.heap.size, [c]⟩) Try.func17 rfl [.ptr 0 c o, .v (.int .i64 d)] [(c, true, .cells l 55)] (by simp [Try.f17]) hE (KeepsTo.refl w [c]) fun a hr => ?_
  refine seg cfg17_ok mixed PanicFree.body 1000 [] [] hr (by first | trivial | exact HpRep.nil | assumption) (by kernel_rfl) fun s_ hs_ => ?_
  simp (maxSteps := 10000000) [SX.vc, SX.stop, SX.contS, SX.contB, SX.contW, SX.contR, SX.contD, SX.sxStep, SX.stepPure, SX.stepNew, SX.stepStore, SX.stepKeep, SX.guardIx, SX.evOp, SX.opd, SX.opds, SX.optOpd, SX.look, SX.putS, SX.gobs, SX.AllP, SX.leave, SX.lookC, SX.lookB, SX.lookT, SX.lookN, SX.findK, SX.evBuiltin, SX.ints, SX.foldI, SX.evBin, SX.evInt, SX.evStr, SX.evEq, SX.arith, SX.evLoad, SX.shapeUp, SX.evFieldAddr, SX.evField, SX.evIndexAddr, SX.evIndex, SX.evFill, SX.evBuild, SX.szs, SX.cellsV, SX.evNew, SX.evStore, SX.spliceL, SX.SV.cells, SX.evConv, SX.evSlice, SX.bnd, SX.evNil, SX.evUn, SX.evPick, SX.pickOpd, SX.popTo, SX.cnd, SX.env0, SX.TD.isAgg, SX.TD.isIface, SX.tails, SX.NotAgg, SX.evLookup, SX.evConvH, SX.evPtrEq, SX.isCells, Go.Value.cells, cfg17, Try.f17]
  refine ⟨by (unfold SX.Ob; first | trivial | omega | ((try simp only [SX.inK]); (try simp [SX.den, SX.IsU8, *]); (try omega))), ?_⟩
  intro a1 w1 hr1 _
  have hA := hr1.all.1.1
  have hrun := run_atomic_add (P := Try.prog) Try.func24 (by kernel_rfl) (by kernel_rfl) (by kernel_rfl) (by kernel_rfl) hA hl hin
  refine post_step rfl ((exec_callFunc (st := _) (c := 0) (hr1.env.same rfl rfl rfl rfl) rfl (g := 24) (l := [.ptr 0 c o, .v (.int .i64 d)]) rfl).trans hrun) ?_
  have h2 := hr1.retK (putBlk_keeps (w := w1) (b := c)) (by simp) 9 (.v (.int .i64 (x + d))) rfl [(c, true, .cells (l.set o (.v (.int .i64 (x + d)))) 55)] ⟨⟨putBlk_same (lt_of_heap hA), by simp, by simp⟩, trivial⟩ (by simp) rfl
  refine seg cfg17_ok mixed PanicFree.body 1000 [] [] h2 (by first | trivial | exact HpRep.nil | assumption) (by kernel_rfl) fun s_ hs_ => ?_
  simp (maxSteps := 10000000) [SX.vc, SX.stop, SX.contS, SX.contB, SX.contW, SX.contR, SX.contD, SX.sxStep, SX.stepPure, SX.stepNew, SX.stepStore, SX.stepKeep, SX.guardIx, SX.evOp, SX.opd, SX.opds, SX.optOpd, SX.look, SX.putS, SX.gobs, SX.AllP, SX.leave, SX.lookC, SX.lookB, SX.lookT, SX.lookN, SX.findK, SX.evBuiltin, SX.ints, SX.foldI, SX.evBin, SX.evInt, SX.evStr, SX.evEq, SX.arith, SX.evLoad, SX.shapeUp, SX.evFieldAddr, SX.evField, SX.evIndexAddr, SX.evIndex, SX.evFill, SX.evBuild, SX.szs, SX.cellsV, SX.evNew, SX.evStore, SX.spliceL, SX.SV.cells, SX.evConv, SX.evSlice, SX.bnd, SX.evNil, SX.evUn, SX.evPick, SX.pickOpd, SX.popTo, SX.cnd, SX.env0, SX.TD.isAgg, SX.TD.isIface, SX.tails, SX.NotAgg, SX.evLookup, SX.evConvH, SX.evPtrEq, SX.isCells, Go.Value.cells, cfg17]
  refine ⟨by (unfold SX.Ob; first | trivial | omega | ((try simp only [SX.inK]); (try simp [SX.den, SX.IsU8, *]); (try omega))), ?_⟩
  intro a3 w3 hr3 _
  exact post_retn (end1 hr3 rfl rfl ⟨rfl, hr3.keeps, hr3.all.1.1⟩).1

def Asked (w : World) (b : Nat) (u : Int) (e : Ending) (w' : World) : Prop := e = .returned (.int .i64 (u + 1)) ∧ KeepsTo w [b] w' ∧ TabRep w' b (u + 1)

theorem asked_ok (w : World) (b : Nat) (u : Int) (hT : TabRep w b u) (hin : inK (u + 1)) :
    Calls Try.prog 17 (denL [.v (.pointer (some ⟨b, 259, none⟩)), .v (.int .i64 1)]).toArray w (Asked w b u) := by
  obtain ⟨d, T, h1, h2, h3⟩ := hT
  refine (add_ok w b 259 _ u 1 h3 (tab_used _ _ _ _) hin).mono ?_
  rintro e w' ⟨rfl, hk, hb⟩
  rw [tab_setu] at hb
  exact ⟨rfl, hk, d, T, h1, h2, hb⟩

set_option maxRecDepth 100000 in
set_option maxHeartbeats 4000000 in
theorem load_ok (w : World) (c o : Nat) (l : List SV) (x : Int) (hb : (SO.cells l 55).rep w c) (hl : l[o]? = some (.v (.int .i64 x))) :
    Calls Try.prog 23 (denL [.v (.pointer (some ⟨c, o, none⟩))]).toArray w fun e w' => e = .returned (.int .i64 x) ∧ Below w.heap.size w w' := by
  have hE : HpAll (frame0 w) w [(c, false, .cells l 55)] := ⟨⟨hb, by simp, by simp⟩, trivial⟩
  refine enter (F := frame0 w) Try.func23 rfl [.ptr 0 c o] [(c, false, .cells l 55)] (by simp [Try.f23]) hE (keeps0 w) fun a hr => ?_
  refine seg cfg23_ok mixed PanicFree.body 1000 [] [] hr (by first | trivial | exact HpRep.nil | assumption) (by kernel_rfl) fun s_ hs_ => ?_
  simp (maxSteps := 10000000) [SX.vc, SX.stop, SX.contS, SX.contB, SX.contW, SX.contR, SX.contD, SX.sxStep, SX.stepPure, SX.stepNew, SX.stepStore, SX.stepKeep, SX.guardIx, SX.evOp, SX.opd, SX.opds, SX.optOpd, SX.look, SX.putS, SX.gobs, SX.AllP, SX.leave, SX.lookC, SX.lookB, SX.lookT, SX.lookN, SX.findK, SX.evBuiltin, SX.ints, SX.foldI, SX.evBin, SX.evInt, SX.evStr, SX.evEq, SX.arith, SX.evLoad, SX.shapeUp, SX.evFieldAddr, SX.evField, SX.evIndexAddr, SX.evIndex, SX.evFill, SX.evBuild, SX.szs, SX.cellsV, SX.evNew, SX.evStore, SX.spliceL, SX.SV.cells, SX.evConv, SX.evSlice, SX.bnd, SX.evNil, SX.evUn, SX.evPick, SX.pickOpd, SX.popTo, SX.cnd, SX.env0, SX.TD.isAgg, SX.TD.isIface, SX.tails, SX.NotAgg, SX.evLookup, SX.evConvH, SX.evPtrEq, SX.isCells, Go.Value.cells, cfg23, Try.f23]
  refine ⟨by (unfold SX.Ob; first | trivial | omega | ((try simp only [SX.inK]); (try simp [SX.den, SX.IsU8, *]); (try omega))), ?_⟩
  intro a1 w1 hr1 _
  have hA := hr1.all.1.1
  have hrun := run_atomic_load (P := Try.prog) Try.func27 (by kernel_rfl) (by kernel_rfl) (by kernel_rfl) (by kernel_rfl) hA hl
  refine post_step rfl ((exec_callFunc (st := _) (c := 0) (hr1.env.same rfl rfl rfl rfl) rfl (g := 27) (l := [.ptr 0 c o]) rfl).trans hrun) ?_
  have h2 := hr1.retK (KeepsTo.refl w1 []) (by simp) 6 (.v (.int .i64 x)) rfl [(c, false, .cells l 55)] hr1.all (by simp) rfl
  refine seg cfg23_ok mixed PanicFree.body 1000 [] [] h2 (by first | trivial | exact HpRep.nil | assumption) (by kernel_rfl) fun s_ hs_ => ?_
  simp (maxSteps := 10000000) [SX.vc, SX.stop, SX.contS, SX.contB, SX.contW, SX.contR, SX.contD, SX.sxStep, SX.stepPure, SX.stepNew, SX.stepStore, SX.stepKeep, SX.guardIx, SX.evOp, SX.opd, SX.opds, SX.optOpd, SX.look, SX.putS, SX.gobs, SX.AllP, SX.leave, SX.lookC, SX.lookB, SX.lookT, SX.lookN, SX.findK, SX.evBuiltin, SX.ints, SX.foldI, SX.evBin, SX.evInt, SX.evStr, SX.evEq, SX.arith, SX.evLoad, SX.shapeUp, SX.evFieldAddr, SX.evField, SX.evIndexAddr, SX.evIndex, SX.evFill, SX.evBuild, SX.szs, SX.cellsV, SX.evNew, SX.evStore, SX.spliceL, SX.SV.cells, SX.evConv, SX.evSlice, SX.bnd, SX.evNil, SX.evUn, SX.evPick, SX.pickOpd, SX.popTo, SX.cnd, SX.env0, SX.TD.isAgg, SX.TD.isIface, SX.tails, SX.NotAgg, SX.evLookup, SX.evConvH, SX.evPtrEq, SX.isCells, Go.Value.cells, cfg23]
  refine ⟨by (unfold SX.Ob; first | trivial | omega | ((try simp only [SX.inK]); (try simp [SX.den, SX.IsU8, *]); (try omega))), ?_⟩
  intro a3 w3 hr3 _
  exact post_retn (end1 hr3 rfl rfl ⟨rfl, hr3.keeps.toBelow⟩).1

def UsedPost (w : World) (u : Int) (e : Ending) (w' : World) : Prop := e = .returned (.int .i64 u) ∧ Below w.heap.size w w'

set_option maxRecDepth 100000 in
set_option maxHeartbeats 4000000 in
theorem used_ok (w : World) (b : Nat) (u : Int) (hT : TabRep w b u) : Calls Try.prog 16 (denL [.v (.pointer (some ⟨b, 0, none⟩))]).toArray w (UsedPost w u) := by
  obtain ⟨d, T, _, _, hb⟩ := hT
  have hE : HpAll (frame0 w) w [(b, false, .cells (tabC d 0 T u) 55)] := ⟨⟨hb, by simp, by simp⟩, trivial⟩
  refine enter (F := frame0 w) Try.func16 rfl [.ptr 0 b 0] _ (by simp [Try.f16]) hE (keeps0 w) fun a hr => ?_
  refine seg cfg16_ok mixed PanicFree.body 1000 [] [] hr (by first | trivial | exact HpRep.nil | assumption) (by kernel_rfl) fun s_ hs_ => ?_
  simp (maxSteps := 10000000) [SX.vc, SX.stop, SX.contS, SX.contB, SX.contW, SX.contR, SX.contD, SX.sxStep, SX.stepPure, SX.stepNew, SX.stepStore, SX.stepKeep, SX.guardIx, SX.evOp, SX.opd, SX.opds, SX.optOpd, SX.look, SX.putS, SX.gobs, SX.AllP, SX.leave, SX.lookC, SX.lookB, SX.lookT, SX.lookN, SX.findK, SX.evBuiltin, SX.ints, SX.foldI, SX.evBin, SX.evInt, SX.evStr, SX.evEq, SX.arith, SX.evLoad, SX.shapeUp, SX.evFieldAddr, SX.evField, SX.evIndexAddr, SX.evIndex, SX.evFill, SX.evBuild, SX.szs, SX.cellsV, SX.evNew, SX.evStore, SX.spliceL, SX.SV.cells, SX.evConv, SX.evSlice, SX.bnd, SX.evNil, SX.evUn, SX.evPick, SX.pickOpd, SX.popTo, SX.cnd, SX.env0, SX.TD.isAgg, SX.TD.isIface, SX.tails, SX.NotAgg, SX.evLookup, SX.evConvH, SX.evPtrEq, SX.isCells, Go.Value.cells, cfg16, Try.f16]
  refine ⟨by (unfold SX.Ob; first | trivial | omega | ((try simp only [SX.inK]); (try simp [SX.den, SX.IsU8, *]); (try omega))), ?_⟩
  intro a1 w1 hr1 _
  refine post_call 23 [.ptr 0 b 259] hr1 (wanted_none rfl) rfl (callable 23 Try.func23) (load_ok w1 b 259 _ u hr1.all.1.1 (tab_used _ _ _ _)) ?_
  rintro e w2 ⟨rfl, hb2⟩
  refine ⟨_, rfl, ?_⟩
  have h2 := hr1.ret hb2 6 (.v (.int .i64 u)) rfl _ (hr1.all.below hb2) (by simp) rfl
  refine seg cfg16_ok mixed PanicFree.body 1000 [] [] h2 (by first | trivial | exact HpRep.nil | assumption) (by kernel_rfl) fun s_ hs_ => ?_
  simp (maxSteps := 10000000) [SX.vc, SX.stop, SX.contS, SX.contB, SX.contW, SX.contR, SX.contD, SX.sxStep, SX.stepPure, SX.stepNew, SX.stepStore, SX.stepKeep, SX.guardIx, SX.evOp, SX.opd, SX.opds, SX.optOpd, SX.look, SX.putS, SX.gobs, SX.AllP, SX.leave, SX.lookC, SX.lookB, SX.lookT, SX.lookN, SX.findK, SX.evBuiltin, SX.ints, SX.foldI, SX.evBin, SX.evInt, SX.evStr, SX.evEq, SX.arith, SX.evLoad, SX.shapeUp, SX.evFieldAddr, SX.evField, SX.evIndexAddr, SX.evIndex, SX.evFill, SX.evBuild, SX.szs, SX.cellsV, SX.evNew, SX.evStore, SX.spliceL, SX.SV.cells, SX.evConv, SX.evSlice, SX.bnd, SX.evNil, SX.evUn, SX.evPick, SX.pickOpd, SX.popTo, SX.cnd, SX.env0, SX.TD.isAgg, SX.TD.isIface, SX.tails, SX.NotAgg, SX.evLookup, SX.evConvH, SX.evPtrEq, SX.isCells, Go.Value.cells, cfg16]
  refine ⟨by (unfold SX.Ob; first | trivial | omega | ((try simp only [SX.inK]); (try simp [SX.den, SX.IsU8, *]); (try omega))), ?_⟩
  intro a3 w3 hr3 _
  exact post_retn (end1 hr3 rfl rfl ⟨rfl, hr3.keeps.toBelow⟩).1

def NewPost (w : World) (e : Ending) (w' : World) : Prop := ∃ b, e = .returned (.pointer (some ⟨b, 0, none⟩)) ∧ w.heap.size ≤ b ∧ TabRep w' b 0 ∧ Below w.heap.size w w'

set_option maxRecDepth 100000 in
set_option maxHeartbeats 4000000 in
theorem new_ok (w : World) : Calls Try.prog 10 (denL []).toArray w (NewPost w) := by
  refine enter (F := frame0 w) Try.func10 rfl [] [] (by simp [Try.f10]) trivial (keeps0 w) fun a hr => ?_
  refine seg cfg10_ok mixed PanicFree.body 1000 [] [] hr (by first | trivial | exact HpRep.nil | assumption) (by kernel_rfl) fun s_ hs_ => ?_
  simp (maxSteps := 10000000) [SX.vc, SX.stop, SX.contS, SX.contB, SX.contW, SX.contR, SX.contD, SX.sxStep, SX.stepPure, SX.stepNew, SX.stepStore, SX.stepKeep, SX.guardIx, SX.evOp, SX.opd, SX.opds, SX.optOpd, SX.look, SX.putS, SX.gobs, SX.AllP, SX.leave, SX.lookC, SX.lookB, SX.lookT, SX.lookN, SX.findK, SX.evBuiltin, SX.ints, SX.foldI, SX.evBin, SX.evInt, SX.evStr, SX.evEq, SX.arith, SX.evLoad, SX.shapeUp, SX.evFieldAddr, SX.evField, SX.evIndexAddr, SX.evIndex, SX.evFill, SX.evBuild, SX.szs, SX.cellsV, SX.evNew, SX.evStore, SX.spliceL, SX.SV.cells, SX.evConv, SX.evSlice, SX.bnd, SX.evNil, SX.evUn, SX.evPick, SX.pickOpd, SX.popTo, SX.cnd, SX.env0, SX.TD.isAgg, SX.TD.isIface, SX.tails, SX.NotAgg, SX.evLookup, SX.evConvH, SX.evPtrEq, SX.isCells, Go.Value.cells, cfg10, Try.f10]
  refine ⟨by (unfold SX.Ob; first | trivial | omega | ((try simp only [SX.inK]); (try simp [SX.den, SX.IsU8, *]); (try omega))), ?_⟩
  intro a1 w1 hr1 _
  obtain ⟨s_0, hs00⟩ : ∃ x, x = s_ := ⟨_, rfl⟩
  subst hs00
  exact post_retn (end1 hr1 rfl rfl ⟨s_0, rfl, by omega, ⟨0, fun _ => 0, .inl rfl, (fun h => by cases h), hr1.all.1.1⟩, hr1.keeps.toBelow⟩).1

/-! ### Sums -/
def sumN (ns : Nat → Nat) (gs : Nat → Nat → BitVec 8) : Nat → BitVec 32
  | 0 => ones
  | k + 1 => go (sumN ns gs k) (gs k) (ns k)

/-- Texts, none of them of block b. -/
def LV (b : Nat) (w : World) (v : Value) (m : Nat) (ns : Nat → Nat) (gs : Nat → Nat → BitVec 8) : Prop :=
  (m = 0 ∧ ∃ a cap, v = .slice a 0 cap) ∨
  (0 < m ∧ ∃ (lb o0 N cap : Nat) (u : TypeId) (fz : Nat × Nat) (vs : Nat → Value), lb ≠ b ∧ v = .slice (some ⟨lb, o0, none⟩) m cap ∧ m ≤ N ∧ (SO.arr o0 N (fun j => [.v (vs j)]) 1 u fz).rep w lb ∧ ∀ j, j < m → BV b w (vs j) (ns j) (gs j) ∧ ns j ≤ 9223372036854775807)

theorem LV.keep {b : Nat} {w w' : World} {v : Value} {m : Nat} {ns : Nat → Nat} {gs : Nat → Nat → BitVec 8} (h : LV b w v m ns gs) (hk : KeepsTo w [b] w') : LV b w' v m ns gs := by
  rcases h with h | ⟨h0, lb, o0, N, cap, u, fz, vs, h1, h2, h3, h4, h5⟩
  · exact .inl h
  · exact .inr ⟨h0, lb, o0, N, cap, u, fz, vs, h1, h2, h3, hk.same h4 (by simpa using h1), fun j hj => ⟨(h5 j hj).1.keep hk, (h5 j hj).2⟩⟩

def SumNil (w : World) (b : Nat) (u : Int) (d : Nat) (a : Act) (w' : World) : Prop :=
  d = 0 ∧ TabRep w' b u ∧ RepX ⟨w, w.heap.size, [b]⟩ ⟨[(14, 0, .v (.int .i64 0)), (13, 0, .v (.int .i64 0)), (5, 0, .v (.int .u32 (rv ones)))], [], 0, 0, 25, [], [], []⟩ a w'

def SumLoop (w : World) (b : Nat) (u : Int) (m : Nat) (ns : Nat → Nat) (gs : Nat → Nat → BitVec 8) (lb o0 N cap : Nat) (t : TypeId) (fz : Nat × Nat) (vs : Nat → Value) (d : Nat) (a : Act) (w' : World) : Prop :=
  ∃ k : Nat, d = m - k ∧ k ≤ m ∧ TabRep w' b u ∧ (∀ j, j < m → BV b w' (vs j) (ns j) (gs j) ∧ ns j ≤ 9223372036854775807) ∧
    RepX ⟨w, w.heap.size, [b]⟩ ⟨[(14, 0, .v (.int .i64 k)), (13, 0, .v (.int .i64 m)), (12, 0, .sl 0 lb o0 0 m cap 1), (5, 0, .v (.int .u32 (rv (sumN ns gs k)))), (0, 0, .v (.pointer (some ⟨b, 0, none⟩)))],
    [(lb, false, .arr o0 N (fun j => [.v (vs j)]) 1 t fz)], 0, 0, 25, [], [], []⟩ a w'

def SumPost (w : World) (b : Nat) (u : Int) (r : BitVec 32) (e : Ending) (w' : World) : Prop := e = .returned (.int .u32 (rv r)) ∧ KeepsTo w [b] w' ∧ TabRep w' b (u + 1)

set_option maxRecDepth 100000 in
set_option maxHeartbeats 8000000 in
theorem sum_ok (w : World) (b : Nat) (u : Int) (hT : TabRep w b u) (hin : inK (u + 1)) (v : Value) (m : Nat) (ns : Nat → Nat) (gs : Nat → Nat → BitVec 8) (hL : LV b w v m ns gs) (hm : m ≤ 9223372036854775807) :
    Calls Try.prog 11 (denL [.v (.pointer (some ⟨b, 0, none⟩)), .v v]).toArray w (SumPost w b u (~~~ sumN ns gs m)) := by
  obtain ⟨d0, T0, hd0, hdT0, hb0⟩ := hT
  have hE : HpAll ⟨w, w.heap.size, [b]⟩ w [(b, false, .cells (tabC d0 0 T0 u) 55)] := ⟨⟨hb0, by simp, by simp⟩, trivial⟩
  refine enter (F := ⟨w, w.heap.size, [b]⟩) Try.func11 rfl [.ptr 0 b 0, .v v] _ (by simp [Try.f11]) hE (KeepsTo.refl w _) fun a hr => ?_
  refine seg cfg11_ok mixed PanicFree.body 1000 [] [] hr (by first | trivial | exact HpRep.nil | assumption) (by kernel_rfl) fun s_ hs_ => ?_
  simp (maxSteps := 10000000) [SX.vc, SX.stop, SX.contS, SX.contB, SX.contW, SX.contR, SX.contD, SX.sxStep, SX.stepPure, SX.stepNew, SX.stepStore, SX.stepKeep, SX.guardIx, SX.evOp, SX.opd, SX.opds, SX.optOpd, SX.look, SX.putS, SX.gobs, SX.AllP, SX.leave, SX.lookC, SX.lookB, SX.lookT, SX.lookN, SX.findK, SX.evBuiltin, SX.ints, SX.foldI, SX.evBin, SX.evInt, SX.evStr, SX.evEq, SX.arith, SX.evLoad, SX.shapeUp, SX.evFieldAddr, SX.evField, SX.evIndexAddr, SX.evIndex, SX.evFill, SX.evBuild, SX.szs, SX.cellsV, SX.evNew, SX.evStore, SX.spliceL, SX.SV.cells, SX.evConv, SX.evSlice, SX.bnd, SX.evNil, SX.evUn, SX.evPick, SX.pickOpd, SX.popTo, SX.cnd, SX.env0, SX.TD.isAgg, SX.TD.isIface, SX.tails, SX.NotAgg, SX.evLookup, SX.evConvH, SX.evPtrEq, SX.isCells, Go.Value.cells, cfg11, Try.f11]
  refine ⟨by (unfold SX.Ob; first | trivial | omega | ((try simp only [SX.inK]); (try simp [SX.den, SX.IsU8, *]); (try omega))), ?_⟩
  intro a1 w1 hr1 _
  refine post_call 17 [.ptr 0 b 259, .v (.int .i64 1)] hr1 (wanted_none rfl) rfl (callable 17 Try.func17) (asked_ok w1 b u ⟨d0, T0, hd0, hdT0, hr1.all.1.1⟩ hin) ?_
  rintro e w2 ⟨rfl, hk2, hT2⟩
  refine ⟨_, rfl, ?_⟩
  have hL2 := (hL.keep hr1.keeps).keep hk2
  have h2 := hr1.retK hk2 (fun x hx => .inr hx) 11 (.v (.int .i64 (u + 1))) rfl [] trivial (by simp) rfl
  rcases hL2 with ⟨rfl, ad, cap, rfl⟩ | ⟨h0, lb, o0, N, cap, t, fz, vs, h1, rfl, h3, h4, h5⟩
  · refine seg cfg11_ok mixed PanicFree.body 1000 [] [] h2.rebase (by first | trivial | exact HpRep.nil | assumption) (by kernel_rfl) fun s_ hs_ => ?_
    simp (maxSteps := 10000000) [SX.vc, SX.stop, SX.contS, SX.contB, SX.contW, SX.contR, SX.contD, SX.sxStep, SX.stepPure, SX.stepNew, SX.stepStore, SX.stepKeep, SX.guardIx, SX.evOp, SX.opd, SX.opds, SX.optOpd, SX.look, SX.putS, SX.gobs, SX.AllP, SX.leave, SX.lookC, SX.lookB, SX.lookT, SX.lookN, SX.findK, SX.evBuiltin, SX.ints, SX.foldI, SX.evBin, SX.evInt, SX.evStr, SX.evEq, SX.arith, SX.evLoad, SX.shapeUp, SX.evFieldAddr, SX.evField, SX.evIndexAddr, SX.evIndex, SX.evFill, SX.evBuild, SX.szs, SX.cellsV, SX.evNew, SX.evStore, SX.spliceL, SX.SV.cells, SX.evConv, SX.evSlice, SX.bnd, SX.evNil, SX.evUn, SX.evPick, SX.pickOpd, SX.popTo, SX.cnd, SX.env0, SX.TD.isAgg, SX.TD.isIface, SX.tails, SX.NotAgg, SX.evLookup, SX.evConvH, SX.evPtrEq, SX.isCells, Go.Value.cells, cfg11]
    refine ⟨by (unfold SX.Ob; first | trivial | omega | ((try simp only [SX.inK]); (try simp [SX.den, SX.IsU8, *]); (try omega))), ?_⟩
    intro a3 w3 hr3' _
    have hr3 := h2.unbase hr3'
    have hT3 := hT2.keep (by simpa [mutB] using hr3'.keeps.toBelow)
    refine post_loop (SumNil w b (u + 1)) 0 ⟨rfl, hT3, hr3.re (by simp [envTo, SX.look, rv_ones]) trivial rfl rfl⟩ ?_
    rintro d a4 w4 ⟨rfl, hT4, hr4⟩
    refine seg cfg11_ok mixed PanicFree.body 1000 [false] [] hr4.rebase (by first | trivial | exact HpRep.nil | assumption) (by kernel_rfl) fun s_ hs_ => ?_
    simp (maxSteps := 10000000) [SX.vc, SX.stop, SX.contS, SX.contB, SX.contW, SX.contR, SX.contD, SX.sxStep, SX.stepPure, SX.stepNew, SX.stepStore, SX.stepKeep, SX.guardIx, SX.evOp, SX.opd, SX.opds, SX.optOpd, SX.look, SX.putS, SX.gobs, SX.AllP, SX.leave, SX.lookC, SX.lookB, SX.lookT, SX.lookN, SX.findK, SX.evBuiltin, SX.ints, SX.foldI, SX.evBin, SX.evInt, SX.evStr, SX.evEq, SX.arith, SX.evLoad, SX.shapeUp, SX.evFieldAddr, SX.evField, SX.evIndexAddr, SX.evIndex, SX.evFill, SX.evBuild, SX.szs, SX.cellsV, SX.evNew, SX.evStore, SX.spliceL, SX.SV.cells, SX.evConv, SX.evSlice, SX.bnd, SX.evNil, SX.evUn, SX.evPick, SX.pickOpd, SX.popTo, SX.cnd, SX.env0, SX.TD.isAgg, SX.TD.isIface, SX.tails, SX.NotAgg, SX.evLookup, SX.evConvH, SX.evPtrEq, SX.isCells, Go.Value.cells, cfg11, vnot']
    refine ⟨by (unfold SX.Ob; first | trivial | omega | ((try simp only [SX.inK]); (try simp [SX.den, SX.IsU8, *]); (try omega))), ?_⟩
    intro a5 w5 hr5' _
    have hr5 := hr4.unbase hr5'
    have hT5 := hT4.keep (by simpa [mutB] using hr5'.keeps.toBelow)
    exact post_retn (end1 hr5 rfl rfl ⟨rfl, hr5.keeps, hT5⟩).1
  · have h3' : RepX ⟨w, w.heap.size, [b]⟩ ⟨[(11, 0, .v (.int .i64 (u + 1))), (1, 0, .sl 0 lb o0 0 m cap 1), (0, 0, .v (.pointer (some ⟨b, 0, none⟩)))], [(lb, false, .arr o0 N (fun j => [.v (vs j)]) 1 t fz)], 0, 0, 25, [], [], []⟩ _ w2 :=
      h2.re (by simp [envTo, SX.look, den]) ⟨⟨h4, by simp, by simp⟩, trivial⟩ rfl rfl
    refine seg cfg11_ok mixed PanicFree.body 1000 [] [] h3'.rebase (by first | trivial | exact HpRep.nil | assumption) (by kernel_rfl) fun s_ hs_ => ?_
    simp (maxSteps := 10000000) [SX.vc, SX.stop, SX.contS, SX.contB, SX.contW, SX.contR, SX.contD, SX.sxStep, SX.stepPure, SX.stepNew, SX.stepStore, SX.stepKeep, SX.guardIx, SX.evOp, SX.opd, SX.opds, SX.optOpd, SX.look, SX.putS, SX.gobs, SX.AllP, SX.leave, SX.lookC, SX.lookB, SX.lookT, SX.lookN, SX.findK, SX.evBuiltin, SX.ints, SX.foldI, SX.evBin, SX.evInt, SX.evStr, SX.evEq, SX.arith, SX.evLoad, SX.shapeUp, SX.evFieldAddr, SX.evField, SX.evIndexAddr, SX.evIndex, SX.evFill, SX.evBuild, SX.szs, SX.cellsV, SX.evNew, SX.evStore, SX.spliceL, SX.SV.cells, SX.evConv, SX.evSlice, SX.bnd, SX.evNil, SX.evUn, SX.evPick, SX.pickOpd, SX.popTo, SX.cnd, SX.env0, SX.TD.isAgg, SX.TD.isIface, SX.tails, SX.NotAgg, SX.evLookup, SX.evConvH, SX.evPtrEq, SX.isCells, Go.Value.cells, cfg11]
    refine ⟨by (unfold SX.Ob; first | trivial | omega | ((try simp only [SX.inK]); (try simp [SX.den, SX.IsU8, *]); (try omega))), ?_⟩
    intro a3 w3 hr3' _
    have hr3 := h3'.unbase hr3'
    have hb3 : Below w2.heap.size w2 w3 := by simpa [mutB] using hr3'.keeps.toBelow
    refine post_loop (SumLoop w b (u + 1) m ns gs lb o0 N cap t fz vs) m ⟨0, rfl, by omega, hT2.keep hb3, fun j hj => ⟨(h5 j hj).1.below hb3, (h5 j hj).2⟩, hr3.re (by simp [envTo, SX.look, sumN, rv_ones]) hr3.all rfl rfl⟩ ?_
    clear hr1 h2 h3' hr3 hr3' hE hr
    rintro d a4 w4 ⟨k, rfl, hk, hT4, hB4, hr4⟩
    by_cases hlt : k < m
    · refine seg cfg11_ok mixed PanicFree.body 1000 [true] [] hr4.rebase (by first | trivial | exact HpRep.nil | assumption) (by kernel_rfl) fun s_ hs_ => ?_
      simp (maxSteps := 10000000) [SX.vc, SX.stop, SX.contS, SX.contB, SX.contW, SX.contR, SX.contD, SX.sxStep, SX.stepPure, SX.stepNew, SX.stepStore, SX.stepKeep, SX.guardIx, SX.evOp, SX.opd, SX.opds, SX.optOpd, SX.look, SX.putS, SX.gobs, SX.AllP, SX.leave, SX.lookC, SX.lookB, SX.lookT, SX.lookN, SX.findK, SX.evBuiltin, SX.ints, SX.foldI, SX.evBin, SX.evInt, SX.evStr, SX.evEq, SX.arith, SX.evLoad, SX.shapeUp, SX.evFieldAddr, SX.evField, SX.evIndexAddr, SX.evIndex, SX.evFill, SX.evBuild, SX.szs, SX.cellsV, SX.evNew, SX.evStore, SX.spliceL, SX.SV.cells, SX.evConv, SX.evSlice, SX.bnd, SX.evNil, SX.evUn, SX.evPick, SX.pickOpd, SX.popTo, SX.cnd, SX.env0, SX.TD.isAgg, SX.TD.isIface, SX.tails, SX.NotAgg, SX.evLookup, SX.evConvH, SX.evPtrEq, SX.isCells, Go.Value.cells, cfg11]
      refine ⟨by (unfold SX.Ob; first | trivial | omega | ((try simp only [SX.inK]); (try simp [SX.den, SX.IsU8, *]); (try omega))), ?_⟩
      intro a5 w5 hr5' _
      have hr5 := hr4.unbase hr5'
      have hb5 : Below w4.heap.size w4 w5 := by simpa [mutB] using hr5'.keeps.toBelow
      refine post_call 18 [.v (.pointer (some ⟨b, 0, none⟩)), .v (.int .u32 (rv (sumN ns gs k))), .v (vs k)] hr5 (wanted_none rfl) rfl (callable 18 Try.func18) (go1_ok w5 b (u + 1) _ (vs k) (ns k) (gs k) (hT4.keep hb5) ((hB4 k hlt).1.below hb5) (hB4 k hlt).2) ?_
      rintro e w6 ⟨rfl, hk6, hb6⟩
      refine ⟨_, rfl, ?_⟩
      have h6 := hr5.retK hk6 (fun x hx => .inr hx) 21 (.v (.int .u32 (rv (go (sumN ns gs k) (gs k) (ns k))))) rfl [(lb, false, .arr o0 N (fun j => [.v (vs j)]) 1 t fz)] (HpAll.to hk6 hr5.all (by simpa using h1)) (by simp) rfl
      refine seg cfg11_ok mixed PanicFree.body 1000 [] [] h6.rebase (by first | trivial | exact HpRep.nil | assumption) (by kernel_rfl) fun s_ hs_ => ?_
      simp (maxSteps := 10000000) [SX.vc, SX.stop, SX.contS, SX.contB, SX.contW, SX.contR, SX.contD, SX.sxStep, SX.stepPure, SX.stepNew, SX.stepStore, SX.stepKeep, SX.guardIx, SX.evOp, SX.opd, SX.opds, SX.optOpd, SX.look, SX.putS, SX.gobs, SX.AllP, SX.leave, SX.lookC, SX.lookB, SX.lookT, SX.lookN, SX.findK, SX.evBuiltin, SX.ints, SX.foldI, SX.evBin, SX.evInt, SX.evStr, SX.evEq, SX.arith, SX.evLoad, SX.shapeUp, SX.evFieldAddr, SX.evField, SX.evIndexAddr, SX.evIndex, SX.evFill, SX.evBuild, SX.szs, SX.cellsV, SX.evNew, SX.evStore, SX.spliceL, SX.SV.cells, SX.evConv, SX.evSlice, SX.bnd, SX.evNil, SX.evUn, SX.evPick, SX.pickOpd, SX.popTo, SX.cnd, SX.env0, SX.TD.isAgg, SX.TD.isIface, SX.tails, SX.NotAgg, SX.evLookup, SX.evConvH, SX.evPtrEq, SX.isCells, Go.Value.cells, cfg11]
      refine ⟨by (unfold SX.Ob; first | trivial | omega | ((try simp only [SX.inK]); (try simp [SX.den, SX.IsU8, *]); (try omega))), ?_⟩
      intro a7 w7 hr7' _
      have hr7 := h6.unbase hr7'
      have hb7 : Below w6.heap.size w6 w7 := by simpa [mutB] using hr7'.keeps.toBelow
      exact post_rnd (m - (k + 1)) (by omega) ⟨k + 1, rfl, hlt, (TabRep.full hb6).keep hb7, fun j hj => ⟨(((hB4 j hj).1.below hb5).keep hk6).below hb7, (hB4 j hj).2⟩, hr7.re (by simp [envTo, SX.look, den, sumN]) hr7.all rfl rfl⟩
    · obtain rfl : k = m := by omega
      refine seg cfg11_ok mixed PanicFree.body 1000 [false] [] hr4.rebase (by first | trivial | exact HpRep.nil | assumption) (by kernel_rfl) fun s_ hs_ => ?_
      simp (maxSteps := 10000000) [SX.vc, SX.stop, SX.contS, SX.contB, SX.contW, SX.contR, SX.contD, SX.sxStep, SX.stepPure, SX.stepNew, SX.stepStore, SX.stepKeep, SX.guardIx, SX.evOp, SX.opd, SX.opds, SX.optOpd, SX.look, SX.putS, SX.gobs, SX.AllP, SX.leave, SX.lookC, SX.lookB, SX.lookT, SX.lookN, SX.findK, SX.evBuiltin, SX.ints, SX.foldI, SX.evBin, SX.evInt, SX.evStr, SX.evEq, SX.arith, SX.evLoad, SX.shapeUp, SX.evFieldAddr, SX.evField, SX.evIndexAddr, SX.evIndex, SX.evFill, SX.evBuild, SX.szs, SX.cellsV, SX.evNew, SX.evStore, SX.spliceL, SX.SV.cells, SX.evConv, SX.evSlice, SX.bnd, SX.evNil, SX.evUn, SX.evPick, SX.pickOpd, SX.popTo, SX.cnd, SX.env0, SX.TD.isAgg, SX.TD.isIface, SX.tails, SX.NotAgg, SX.evLookup, SX.evConvH, SX.evPtrEq, SX.isCells, Go.Value.cells, cfg11, vnot']
      refine ⟨by (unfold SX.Ob; first | trivial | omega | ((try simp only [SX.inK]); (try simp [SX.den, SX.IsU8, *]); (try omega))), ?_⟩
      intro a5 w5 hr5' _
      have hr5 := hr4.unbase hr5'
      have hT5 := hT4.keep (by simpa [mutB] using hr5'.keeps.toBelow)
      exact post_retn (end1 hr5 rfl rfl ⟨rfl, hr5.keeps, hT5⟩).1

set_option maxRecDepth 100000 in
set_option maxHeartbeats 8000000 in
theorem update_ok (w : World) (b : Nat) (u : Int) (hT : TabRep w b u) (hin : inK (u + 1)) (c : BitVec 32) (v : Value) (n : Nat) (g : Nat → BitVec 8) (hB : BV b w v n g) (hn : n ≤ 9223372036854775807) :
    Calls Try.prog 13 (denL [.v (.pointer (some ⟨b, 0, none⟩)), .v (.int .u32 (rv c)), .v v]).toArray w (SumPost w b u (~~~ go (~~~ c) g n)) := by
  obtain ⟨d0, T0, hd0, hdT0, hb0⟩ := hT
  have hE : HpAll ⟨w, w.heap.size, [b]⟩ w [(b, false, .cells (tabC d0 0 T0 u) 55)] := ⟨⟨hb0, by simp, by simp⟩, trivial⟩
  refine enter (F := ⟨w, w.heap.size, [b]⟩) Try.func13 rfl [.ptr 0 b 0, .v (.int .u32 (rv c)), .v v] _ (by simp [Try.f13]) hE (KeepsTo.refl w _) fun a hr => ?_
  refine seg cfg13_ok mixed PanicFree.body 1000 [] [] hr (by first | trivial | exact HpRep.nil | assumption) (by kernel_rfl) fun s_ hs_ => ?_
  simp (maxSteps := 10000000) [SX.vc, SX.stop, SX.contS, SX.contB, SX.contW, SX.contR, SX.contD, SX.sxStep, SX.stepPure, SX.stepNew, SX.stepStore, SX.stepKeep, SX.guardIx, SX.evOp, SX.opd, SX.opds, SX.optOpd, SX.look, SX.putS, SX.gobs, SX.AllP, SX.leave, SX.lookC, SX.lookB, SX.lookT, SX.lookN, SX.findK, SX.evBuiltin, SX.ints, SX.foldI, SX.evBin, SX.evInt, SX.evStr, SX.evEq, SX.arith, SX.evLoad, SX.shapeUp, SX.evFieldAddr, SX.evField, SX.evIndexAddr, SX.evIndex, SX.evFill, SX.evBuild, SX.szs, SX.cellsV, SX.evNew, SX.evStore, SX.spliceL, SX.SV.cells, SX.evConv, SX.evSlice, SX.bnd, SX.evNil, SX.evUn, SX.evPick, SX.pickOpd, SX.popTo, SX.cnd, SX.env0, SX.TD.isAgg, SX.TD.isIface, SX.tails, SX.NotAgg, SX.evLookup, SX.evConvH, SX.evPtrEq, SX.isCells, Go.Value.cells, cfg13, Try.f13]
  refine ⟨by (unfold SX.Ob; first | trivial | omega | ((try simp only [SX.inK]); (try simp [SX.den, SX.IsU8, *]); (try omega))), ?_⟩
  intro a1 w1 hr1 _
  refine post_call 17 [.ptr 0 b 259, .v (.int .i64 1)] hr1 (wanted_none rfl) rfl (callable 17 Try.func17) (asked_ok w1 b u ⟨d0, T0, hd0, hdT0, hr1.all.1.1⟩ hin) ?_
  rintro e w2 ⟨rfl, hk2, hT2⟩
  refine ⟨_, rfl, ?_⟩
  have h2 := hr1.retK hk2 (fun x hx => .inr hx) 10 (.v (.int .i64 (u + 1))) rfl [] trivial (by simp) rfl
  refine seg cfg13_ok mixed PanicFree.body 1000 [] [] h2.rebase (by first | trivial | exact HpRep.nil | assumption) (by kernel_rfl) fun s_ hs_ => ?_
  simp (maxSteps := 10000000) [SX.vc, SX.stop, SX.contS, SX.contB, SX.contW, SX.contR, SX.contD, SX.sxStep, SX.stepPure, SX.stepNew, SX.stepStore, SX.stepKeep, SX.guardIx, SX.evOp, SX.opd, SX.opds, SX.optOpd, SX.look, SX.putS, SX.gobs, SX.AllP, SX.leave, SX.lookC, SX.lookB, SX.lookT, SX.lookN, SX.findK, SX.evBuiltin, SX.ints, SX.foldI, SX.evBin, SX.evInt, SX.evStr, SX.evEq, SX.arith, SX.evLoad, SX.shapeUp, SX.evFieldAddr, SX.evField, SX.evIndexAddr, SX.evIndex, SX.evFill, SX.evBuild, SX.szs, SX.cellsV, SX.evNew, SX.evStore, SX.spliceL, SX.SV.cells, SX.evConv, SX.evSlice, SX.bnd, SX.evNil, SX.evUn, SX.evPick, SX.pickOpd, SX.popTo, SX.cnd, SX.env0, SX.TD.isAgg, SX.TD.isIface, SX.tails, SX.NotAgg, SX.evLookup, SX.evConvH, SX.evPtrEq, SX.isCells, Go.Value.cells, cfg13, vnot']
  refine ⟨by (unfold SX.Ob; first | trivial | omega | ((try simp only [SX.inK]); (try simp [SX.den, SX.IsU8, *]); (try omega))), ?_⟩
  intro a3 w3 hr3' _
  have hr3 := h2.unbase hr3'
  have hb3 : Below w2.heap.size w2 w3 := by simpa [mutB] using hr3'.keeps.toBelow
  refine post_call 18 [.ptr 0 b 0, .v (.int .u32 (rv (~~~ c))), .v v] hr3 (wanted_none rfl) rfl (callable 18 Try.func18) (go1_ok w3 b (u + 1) _ v n g (hT2.keep hb3) (((hB.keep hr1.keeps).keep hk2).below hb3) hn) ?_
  rintro e w4 ⟨rfl, hk4, hb4⟩
  refine ⟨_, rfl, ?_⟩
  have h4 := hr3.retK hk4 (fun x hx => .inr hx) 15 (.v (.int .u32 (rv (go (~~~ c) g n)))) rfl [] trivial (by simp) rfl
  refine seg cfg13_ok mixed PanicFree.body 1000 [] [] h4.rebase (by first | trivial | exact HpRep.nil | assumption) (by kernel_rfl) fun s_ hs_ => ?_
  simp (maxSteps := 10000000) [SX.vc, SX.stop, SX.contS, SX.contB, SX.contW, SX.contR, SX.contD, SX.sxStep, SX.stepPure, SX.stepNew, SX.stepStore, SX.stepKeep, SX.guardIx, SX.evOp, SX.opd, SX.opds, SX.optOpd, SX.look, SX.putS, SX.gobs, SX.AllP, SX.leave, SX.lookC, SX.lookB, SX.lookT, SX.lookN, SX.findK, SX.evBuiltin, SX.ints, SX.foldI, SX.evBin, SX.evInt, SX.evStr, SX.evEq, SX.arith, SX.evLoad, SX.shapeUp, SX.evFieldAddr, SX.evField, SX.evIndexAddr, SX.evIndex, SX.evFill, SX.evBuild, SX.szs, SX.cellsV, SX.evNew, SX.evStore, SX.spliceL, SX.SV.cells, SX.evConv, SX.evSlice, SX.bnd, SX.evNil, SX.evUn, SX.evPick, SX.pickOpd, SX.popTo, SX.cnd, SX.env0, SX.TD.isAgg, SX.TD.isIface, SX.tails, SX.NotAgg, SX.evLookup, SX.evConvH, SX.evPtrEq, SX.isCells, Go.Value.cells, cfg13, vnot']
  refine ⟨by (unfold SX.Ob; first | trivial | omega | ((try simp only [SX.inK]); (try simp [SX.den, SX.IsU8, *]); (try omega))), ?_⟩
  intro a5 w5 hr5' _
  have hr5 := h4.unbase hr5'
  have hT5 := (TabRep.full hb4).keep (by simpa [mutB] using hr5'.keeps.toBelow)
  exact post_retn (end1 hr5 rfl rfl ⟨rfl, hr5.keeps, hT5⟩).1
end Go.Proofs
