/- The client: what is over, as rows; Clone. -/
import Derived.Test.YtjkecmgobcppiaaKC
namespace Go.Proofs
set_option linter.unusedVariables false
set_option linter.unusedSimpArgs false
open Go Go.SX Go.RowKit

structure Fin11 where
  id : Int
  act : Act7
  e : Int
  data : Value
  tries : Int

def finC (f : Fin11) : List SV := [.v (.int .i64 f.id), .v (.int .i64 f.act.do_), .v (.int .i64 f.act.host), .v (.int .i64 f.act.zone), .v (.int .i64 f.act.lba), .v (.int .i64 f.act.n), .v (.int .u8 f.act.by_), .v (.int .i64 f.act.keep), .v (.int .i64 f.e), .v f.data, .v (.int .i64 f.tries)]

/-- What is over: nothing, or rows in a block of P of their own. -/
def Fins (P : Nat → Prop) (w : World) (v : Value) (n : Nat) (f : Nat → Fin11) : Prop :=
  (n = 0 ∧ v = .slice none 0 0) ∨
  (0 < n ∧ ∃ (b N cap : Nat) (u : TypeId) (row : Nat → List SV), P b ∧ v = .slice (some ⟨b, 0, none⟩) n cap ∧ n ≤ cap ∧ cap ≤ N ∧ (SO.arr 0 N row 11 u (0, 0)).rep w b ∧ ∀ j, j < n → row j = finC (f j) ∧ NotAgg (f j).data)

theorem Fins.keep {P : Nat → Prop} {w w' : World} {M : List Nat} {v : Value} {n : Nat} {f : Nat → Fin11} (h : Fins P w v n f) (hk : KeepsTo w M w') (hM : ∀ x ∈ M, ¬ P x) : Fins P w' v n f := by
  rcases h with h | ⟨h0, b, N, cap, u, row, hP, h1, h2, h3, h4, h5⟩
  · exact .inl h
  · exact .inr ⟨h0, b, N, cap, u, row, hP, h1, h2, h3, hk.same h4 fun hm => hM b hm hP, h5⟩

theorem Fins.below {P : Nat → Prop} {w w' : World} {v : Value} {n : Nat} {f : Nat → Fin11} (h : Fins P w v n f) (hb : Below w.heap.size w w') : Fins P w' v n f := h.keep (KeepsTo.below hb []) (by simp)

theorem Fins.mono {P P' : Nat → Prop} {w : World} {v : Value} {n : Nat} {f : Nat → Fin11} (h : Fins P w v n f) (hP : ∀ x, x < w.heap.size → P x → P' x) : Fins P' w v n f := by
  rcases h with h | ⟨h0, b, N, cap, u, row, hb, h1, h2, h3, h4, h5⟩
  · exact .inl h
  · exact .inr ⟨h0, b, N, cap, u, row, hP b (SO.rep_lt h4) hb, h1, h2, h3, h4, h5⟩

def ClonePost (w : World) (n : Nat) (f : Nat → Fin11) (e : Ending) (w' : World) : Prop := ∃ v', e = .returned v' ∧ Fins (fun x => w.heap.size ≤ x) w' v' n f ∧ Below w.heap.size w w'

set_option maxRecDepth 100000 in
set_option maxHeartbeats 8000000 in
theorem clone_ok (w : World) (v : Value) (n : Nat) (f : Nat → Fin11) (P : Nat → Prop) (hv : Fins P w v n f) (hn : n ≤ 1000000) : Calls Try.prog 21 (denL [.v v]).toArray w (ClonePost w n f) := by
  rcases hv with ⟨rfl, rfl⟩ | ⟨h0, b, N, cap, u, row, hPb, rfl, hc1, hc2, hrep, hrow⟩
  · refine enter (F := frame0 w) Try.func21 rfl [.v (.slice none 0 0)] [] (by simp [Try.f21]) trivial (keeps0 w) fun a hr => ?_
    refine seg cfg21_ok mixed PanicFree.body 1000 [true] [] hr (by first | trivial | exact HpRep.nil | assumption) (by kernel_rfl) fun s_ hs_ => ?_
    simp (maxSteps := 10000000) [SX.vc, SX.stop, SX.contS, SX.contB, SX.contW, SX.contR, SX.contD, SX.sxStep, SX.stepPure, SX.stepNew, SX.stepStore, SX.stepKeep, SX.guardIx, SX.evOp, SX.opd, SX.opds, SX.optOpd, SX.look, SX.putS, SX.gobs, SX.AllP, SX.leave, SX.lookC, SX.lookB, SX.lookT, SX.lookN, SX.findK, SX.evBuiltin, SX.ints, SX.foldI, SX.evBin, SX.evInt, SX.evStr, SX.evEq, SX.arith, SX.evLoad, SX.shapeUp, SX.evFieldAddr, SX.evField, SX.evIndexAddr, SX.evIndex, SX.evFill, SX.evBuild, SX.szs, SX.cellsV, SX.evNew, SX.evStore, SX.spliceL, SX.SV.cells, SX.evConv, SX.evSlice, SX.bnd, SX.evNil, SX.evUn, SX.evPick, SX.pickOpd, SX.popTo, SX.cnd, SX.env0, SX.TD.isAgg, SX.TD.isIface, SX.tails, SX.NotAgg, SX.evLookup, SX.evConvH, SX.evPtrEq, SX.isCells, SX.thaw, SX.frz, SX.fixB, SX.rootIx, SX.Froz, SX.frzStep, SX.fork, Go.Value.cells, Go.undef, cfg21, Try.f21]
    refine ⟨by (unfold SX.Ob; first | trivial | omega | ((try simp only [SX.inK]); (try simp [SX.den, SX.IsU8, *]); (try omega))), ?_⟩
    intro a1 w1 hr1 _
    exact post_retn (end1 hr1 rfl rfl ⟨_, rfl, .inl ⟨rfl, rfl⟩, hr1.keeps.toBelow⟩).1
  · have h3 : (SO.arr 0 n (fun j => finC (f j)) 11 u (0, 0)).rep w b := rep_arr_sub hrep (by omega) fun j hj => by rw [(hrow j hj).1]
    have hE : HpAll (frame0 w) w [(b, false, .arr 0 n (fun j => finC (f j)) 11 u (0, 0))] := ⟨⟨h3, by simp, by simp⟩, trivial⟩
    refine enter (F := frame0 w) Try.func21 rfl [.sl 0 b 0 0 n cap 11] _ (by simp [Try.f21]) hE (keeps0 w) fun a hr => ?_
    refine seg cfg21_ok mixed PanicFree.body 8 [] [] hr (by first | trivial | exact HpRep.nil | assumption) (by kernel_rfl) fun s_ hs_ => ?_
    simp (maxSteps := 10000000) [SX.vc, SX.stop, SX.contS, SX.contB, SX.contW, SX.contR, SX.contD, SX.sxStep, SX.stepPure, SX.stepNew, SX.stepStore, SX.stepKeep, SX.guardIx, SX.evOp, SX.opd, SX.opds, SX.optOpd, SX.look, SX.putS, SX.gobs, SX.AllP, SX.leave, SX.lookC, SX.lookB, SX.lookT, SX.lookN, SX.findK, SX.evBuiltin, SX.ints, SX.foldI, SX.evBin, SX.evInt, SX.evStr, SX.evEq, SX.arith, SX.evLoad, SX.shapeUp, SX.evFieldAddr, SX.evField, SX.evIndexAddr, SX.evIndex, SX.evFill, SX.evBuild, SX.szs, SX.cellsV, SX.evNew, SX.evStore, SX.spliceL, SX.SV.cells, SX.evConv, SX.evSlice, SX.bnd, SX.evNil, SX.evUn, SX.evPick, SX.pickOpd, SX.popTo, SX.cnd, SX.env0, SX.TD.isAgg, SX.TD.isIface, SX.tails, SX.NotAgg, SX.evLookup, SX.evConvH, SX.evPtrEq, SX.isCells, SX.thaw, SX.frz, SX.fixB, SX.rootIx, SX.Froz, SX.frzStep, SX.fork, Go.Value.cells, Go.undef, cfg21, Try.f21]
    refine ⟨by (unfold SX.Ob; first | trivial | omega | ((try simp only [SX.inK]); (try simp [SX.den, SX.IsU8, *]); (try omega))), ?_⟩
    intro a1 w1 hr1 _
    refine seg cfg21_ok mixed PanicFree.body 1000 [false] [] hr1 (by first | trivial | exact HpRep.nil | assumption) (by kernel_rfl) fun s_ hs_ => ?_
    simp (maxSteps := 10000000) [SX.vc, SX.stop, SX.contS, SX.contB, SX.contW, SX.contR, SX.contD, SX.sxStep, SX.stepPure, SX.stepNew, SX.stepStore, SX.stepKeep, SX.guardIx, SX.evOp, SX.opd, SX.opds, SX.optOpd, SX.look, SX.putS, SX.gobs, SX.AllP, SX.leave, SX.lookC, SX.lookB, SX.lookT, SX.lookN, SX.findK, SX.evBuiltin, SX.ints, SX.foldI, SX.evBin, SX.evInt, SX.evStr, SX.evEq, SX.arith, SX.evLoad, SX.shapeUp, SX.evFieldAddr, SX.evField, SX.evIndexAddr, SX.evIndex, SX.evFill, SX.evBuild, SX.szs, SX.cellsV, SX.evNew, SX.evStore, SX.spliceL, SX.SV.cells, SX.evConv, SX.evSlice, SX.bnd, SX.evNil, SX.evUn, SX.evPick, SX.pickOpd, SX.popTo, SX.cnd, SX.env0, SX.TD.isAgg, SX.TD.isIface, SX.tails, SX.NotAgg, SX.evLookup, SX.evConvH, SX.evPtrEq, SX.isCells, SX.thaw, SX.frz, SX.fixB, SX.rootIx, SX.Froz, SX.frzStep, SX.fork, Go.Value.cells, Go.undef, cfg21]
    refine ⟨by (unfold SX.Ob; first | trivial | omega | ((try simp only [SX.inK]); (try simp [SX.den, SX.IsU8, *]); (try omega))), ?_⟩
    intro a2 w2 hr2 _
    obtain ⟨s_0, hs00⟩ : ∃ x, x = s_ := ⟨_, rfl⟩
    subst hs00
    refine post_append cfg21_ok hr2 rfl (d := 7) rfl (by simp) rfl rfl (t := 27) (t' := 27) rfl rfl rfl rfl rfl rfl (by decide) (j := 0) rfl rfl (base2 := 0) (by omega) (.inr ⟨rfl, rfl, Nat.le_refl _, Nat.le_refl _⟩) h0 (by show (2 * (0 + n) + 192) * 104 ≤ 281474976710656; omega) (fun j hj z hz => ?_) ?_
    · have h5 := (hrow j hj).2
      simp only [finC, Nat.zero_add, List.mem_cons, List.not_mem_nil, or_false] at hz
      rcases hz with rfl | rfl | rfl | rfl | rfl | rfl | rfl | rfl | rfl | rfl | rfl <;> first | trivial | exact h5
    intro a3 w3 b' cap' N' row' u' hc1' hc2' hrow0 hrow1 hb' hr3
    refine seg cfg21_ok mixed PanicFree.body 1000 [] [] hr3 (by first | trivial | exact HpRep.nil | assumption) (by kernel_rfl) fun s_ hs_ => ?_
    simp (maxSteps := 10000000) [SX.vc, SX.stop, SX.contS, SX.contB, SX.contW, SX.contR, SX.contD, SX.sxStep, SX.stepPure, SX.stepNew, SX.stepStore, SX.stepKeep, SX.guardIx, SX.evOp, SX.opd, SX.opds, SX.optOpd, SX.look, SX.putS, SX.gobs, SX.AllP, SX.leave, SX.lookC, SX.lookB, SX.lookT, SX.lookN, SX.findK, SX.evBuiltin, SX.ints, SX.foldI, SX.evBin, SX.evInt, SX.evStr, SX.evEq, SX.arith, SX.evLoad, SX.shapeUp, SX.evFieldAddr, SX.evField, SX.evIndexAddr, SX.evIndex, SX.evFill, SX.evBuild, SX.szs, SX.cellsV, SX.evNew, SX.evStore, SX.spliceL, SX.SV.cells, SX.evConv, SX.evSlice, SX.bnd, SX.evNil, SX.evUn, SX.evPick, SX.pickOpd, SX.popTo, SX.cnd, SX.env0, SX.TD.isAgg, SX.TD.isIface, SX.tails, SX.NotAgg, SX.evLookup, SX.evConvH, SX.evPtrEq, SX.isCells, SX.thaw, SX.frz, SX.fixB, SX.rootIx, SX.Froz, SX.frzStep, SX.fork, Go.Value.cells, Go.undef, cfg21]
    refine ⟨by (unfold SX.Ob; first | trivial | omega | ((try simp only [SX.inK]); (try simp [SX.den, SX.IsU8, *]); (try omega))), ?_⟩
    intro a4 w4 hr4 _
    have hA := hr4.all
    have hbb : w.heap.size ≤ b' := by
      have h10 : w.heap.size ≤ w2.heap.size := hr2.keeps.size
      have h11 := hr2.all.2.1.2.1
      rcases hb' with ⟨h, rfl⟩ | rfl
      · cases h
        rcases h11 rfl with h | h
        · exact h
        · cases h
      · exact h10
    exact post_retn (end1 hr4 rfl rfl ⟨_, rfl, .inr ⟨h0, b', N', cap', u', row', hbb, by simp [den], by omega, hc2', hA.2.1.1, fun j hj => ⟨by have := hrow1 j hj; simp at this; rw [this], (hrow j hj).2⟩⟩, hr4.keeps.toBelow⟩).1
end Go.Proofs
