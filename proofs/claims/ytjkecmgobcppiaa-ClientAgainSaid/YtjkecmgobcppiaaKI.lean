/- The client: bytes, and their Clone. -/
import Derived.Test.YtjkecmgobcppiaaKH
import Derived.Test.YtjkecmgobcppiaaSxK
namespace Go.Proofs
set_option linter.unusedVariables false
set_option linter.unusedSimpArgs false
open Go Go.SX Go.RowKit

/-- Bytes in a block of P. -/
def Byts (P : Nat → Prop) (w : World) (v : Value) (n : Nat) (g : Nat → Int) : Prop :=
  (n = 0 ∧ ∃ a cap, v = .slice a 0 cap) ∨
  (0 < n ∧ ∃ (b o0 N cap : Nat) (u : TypeId) (fz : Nat × Nat), P b ∧ v = .slice (some ⟨b, o0, none⟩) n cap ∧ n ≤ N ∧ (SO.arr o0 N (fun j => [.v (.int .u8 (g j))]) 1 u fz).rep w b)

theorem Byts.keep {P : Nat → Prop} {w w' : World} {M : List Nat} {v : Value} {n : Nat} {g : Nat → Int} (h : Byts P w v n g) (hk : KeepsTo w M w') (hM : ∀ x ∈ M, ¬ P x) : Byts P w' v n g := by
  rcases h with h | ⟨h0, b, o0, N, cap, u, fz, hP, h1, h2, h3⟩
  · exact .inl h
  · exact .inr ⟨h0, b, o0, N, cap, u, fz, hP, h1, h2, hk.same h3 fun hm => hM b hm hP⟩

def CloneB (w : World) (n : Nat) (g : Nat → Int) (e : Ending) (w' : World) : Prop := ∃ v', e = .returned v' ∧ Byts (fun x => w.heap.size ≤ x) w' v' n g ∧ Below w.heap.size w w'

set_option maxRecDepth 100000 in
set_option maxHeartbeats 8000000 in
theorem cloneB_some (w : World) (b o0 N cap n : Nat) (u : TypeId) (fz : Nat × Nat) (g : Nat → Int) (h0 : 0 < n) (hN : n ≤ N) (hb : (SO.arr o0 N (fun j => [.v (.int .u8 (g j))]) 1 u fz).rep w b) (hn : n ≤ 1000000) :
    Calls Try.prog 25 (denL [.sl 0 b o0 0 n cap 1]).toArray w (CloneB w n g) := by
  have hE : HpAll (frame0 w) w [(b, false, .arr o0 N (fun j => [.v (.int .u8 (g j))]) 1 u fz)] := ⟨⟨hb, by simp, by simp⟩, trivial⟩
  refine enter (F := frame0 w) Try.func25 rfl [.sl 0 b o0 0 n cap 1] _ (by simp [Try.f25]) hE (keeps0 w) fun a hr => ?_
  refine seg cfg25_ok mixed PanicFree.body 1000 [false] [] hr (by first | trivial | exact HpRep.nil | assumption) (by kernel_rfl) fun s_ hs_ => ?_
  simp (maxSteps := 10000000) [SX.vc, SX.stop, SX.contS, SX.contB, SX.contW, SX.contR, SX.contD, SX.sxStep, SX.stepPure, SX.stepNew, SX.stepStore, SX.stepKeep, SX.guardIx, SX.evOp, SX.opd, SX.opds, SX.optOpd, SX.look, SX.putS, SX.gobs, SX.AllP, SX.leave, SX.lookC, SX.lookB, SX.lookT, SX.lookN, SX.findK, SX.evBuiltin, SX.ints, SX.foldI, SX.evBin, SX.evInt, SX.evStr, SX.evEq, SX.arith, SX.evLoad, SX.shapeUp, SX.evFieldAddr, SX.evField, SX.evIndexAddr, SX.evIndex, SX.evFill, SX.evBuild, SX.szs, SX.cellsV, SX.evNew, SX.evStore, SX.spliceL, SX.SV.cells, SX.evConv, SX.evSlice, SX.bnd, SX.evNil, SX.evUn, SX.evPick, SX.pickOpd, SX.popTo, SX.cnd, SX.env0, SX.TD.isAgg, SX.TD.isIface, SX.tails, SX.NotAgg, SX.evLookup, SX.evConvH, SX.evPtrEq, SX.isCells, SX.thaw, SX.frz, SX.fixB, SX.rootIx, SX.Froz, SX.frzStep, SX.fork, Go.Value.cells, Go.undef, cfg25, Try.f25]
  refine ⟨by (unfold SX.Ob; first | trivial | omega | ((try simp only [SX.inK]); (try simp [SX.den, SX.IsU8, *]); (try omega))), ?_⟩
  intro a1 w1 hr1 _
  obtain ⟨s_0, hs00⟩ : ∃ x, x = s_ := ⟨_, rfl⟩
  subst hs00
  refine post_append cfg25_ok hr1 rfl (d := 7) rfl (by simp) rfl rfl (t := 34) (t' := 34) rfl rfl rfl rfl rfl rfl (by decide) (j := 0) rfl rfl (base2 := 0) (by omega) (.inr ⟨rfl, rfl, Nat.le_refl _, Nat.le_refl _⟩) h0 (by show (2 * (0 + n) + 192) * 1 ≤ 281474976710656; omega) (fun j hj z hz => by simp at hz; subst hz; trivial) ?_
  intro a2 w2 b' cap' N' row' u' hc1 hc2 hrow0 hrow hb' hr2
  have hbb : w.heap.size ≤ b' := by
    have h10 : w.heap.size ≤ w1.heap.size := hr1.keeps.size
    have h11 := hr1.all.2.1.2.1
    rcases hb' with ⟨h, rfl⟩ | rfl
    · cases h
      rcases h11 rfl with h | h
      · exact h
      · cases h
    · exact h10
  refine seg cfg25_ok mixed PanicFree.body 1000 [] [] hr2 (by first | trivial | exact HpRep.nil | assumption) (by kernel_rfl) fun s_ hs_ => ?_
  simp (maxSteps := 10000000) [SX.vc, SX.stop, SX.contS, SX.contB, SX.contW, SX.contR, SX.contD, SX.sxStep, SX.stepPure, SX.stepNew, SX.stepStore, SX.stepKeep, SX.guardIx, SX.evOp, SX.opd, SX.opds, SX.optOpd, SX.look, SX.putS, SX.gobs, SX.AllP, SX.leave, SX.lookC, SX.lookB, SX.lookT, SX.lookN, SX.findK, SX.evBuiltin, SX.ints, SX.foldI, SX.evBin, SX.evInt, SX.evStr, SX.evEq, SX.arith, SX.evLoad, SX.shapeUp, SX.evFieldAddr, SX.evField, SX.evIndexAddr, SX.evIndex, SX.evFill, SX.evBuild, SX.szs, SX.cellsV, SX.evNew, SX.evStore, SX.spliceL, SX.SV.cells, SX.evConv, SX.evSlice, SX.bnd, SX.evNil, SX.evUn, SX.evPick, SX.pickOpd, SX.popTo, SX.cnd, SX.env0, SX.TD.isAgg, SX.TD.isIface, SX.tails, SX.NotAgg, SX.evLookup, SX.evConvH, SX.evPtrEq, SX.isCells, SX.thaw, SX.frz, SX.fixB, SX.rootIx, SX.Froz, SX.frzStep, SX.fork, Go.Value.cells, Go.undef, cfg25]
  refine ⟨by (unfold SX.Ob; first | trivial | omega | ((try simp only [SX.inK]); (try simp [SX.den, SX.IsU8, *]); (try omega))), ?_⟩
  intro a3 w3 hr3 _
  exact post_retn (end1 hr3 rfl rfl ⟨_, rfl, .inr ⟨h0, b', 0, n, cap', u', (0, 0), hbb, by simp [den], Nat.le_refl _, rep_arr_sub hr3.all.2.1.1 (by omega) fun j hj => by have := hrow j hj; simp at this; rw [this]⟩, hr3.keeps.toBelow⟩).1

set_option maxRecDepth 100000 in
set_option maxHeartbeats 8000000 in
theorem cloneB_nil (w : World) (g : Nat → Int) : Calls Try.prog 25 (denL [.v (.slice none 0 0)]).toArray w (CloneB w 0 g) := by
  refine enter (F := frame0 w) Try.func25 rfl [.v (.slice none 0 0)] [] (by simp [Try.f25]) trivial (keeps0 w) fun a hr => ?_
  refine seg cfg25_ok mixed PanicFree.body 1000 [true] [] hr (by first | trivial | exact HpRep.nil | assumption) (by kernel_rfl) fun s_ hs_ => ?_
  simp (maxSteps := 10000000) [SX.vc, SX.stop, SX.contS, SX.contB, SX.contW, SX.contR, SX.contD, SX.sxStep, SX.stepPure, SX.stepNew, SX.stepStore, SX.stepKeep, SX.guardIx, SX.evOp, SX.opd, SX.opds, SX.optOpd, SX.look, SX.putS, SX.gobs, SX.AllP, SX.leave, SX.lookC, SX.lookB, SX.lookT, SX.lookN, SX.findK, SX.evBuiltin, SX.ints, SX.foldI, SX.evBin, SX.evInt, SX.evStr, SX.evEq, SX.arith, SX.evLoad, SX.shapeUp, SX.evFieldAddr, SX.evField, SX.evIndexAddr, SX.evIndex, SX.evFill, SX.evBuild, SX.szs, SX.cellsV, SX.evNew, SX.evStore, SX.spliceL, SX.SV.cells, SX.evConv, SX.evSlice, SX.bnd, SX.evNil, SX.evUn, SX.evPick, SX.pickOpd, SX.popTo, SX.cnd, SX.env0, SX.TD.isAgg, SX.TD.isIface, SX.tails, SX.NotAgg, SX.evLookup, SX.evConvH, SX.evPtrEq, SX.isCells, SX.thaw, SX.frz, SX.fixB, SX.rootIx, SX.Froz, SX.frzStep, SX.fork, Go.Value.cells, Go.undef, cfg25, Try.f25]
  refine ⟨by (unfold SX.Ob; first | trivial | omega | ((try simp only [SX.inK]); (try simp [SX.den, SX.IsU8, *]); (try omega))), ?_⟩
  intro a1 w1 hr1 _
  exact post_retn (end1 hr1 rfl rfl ⟨_, rfl, .inl ⟨rfl, none, 0, rfl⟩, hr1.keeps.toBelow⟩).1

set_option maxRecDepth 100000 in
set_option maxHeartbeats 8000000 in
theorem cloneB_empty (w : World) (ad : Addr) (cap : Nat) (g : Nat → Int) : Calls Try.prog 25 (denL [.v (.slice (some ad) 0 cap)]).toArray w (CloneB w 0 g) := by
  refine enter (F := frame0 w) Try.func25 rfl [.v (.slice (some ad) 0 cap)] [] (by simp [Try.f25]) trivial (keeps0 w) fun a hr => ?_
  refine seg cfg25_ok mixed PanicFree.body 1000 [false] [] hr (by first | trivial | exact HpRep.nil | assumption) (by kernel_rfl) fun s_ hs_ => ?_
  simp (maxSteps := 10000000) [SX.vc, SX.stop, SX.contS, SX.contB, SX.contW, SX.contR, SX.contD, SX.sxStep, SX.stepPure, SX.stepNew, SX.stepStore, SX.stepKeep, SX.guardIx, SX.evOp, SX.opd, SX.opds, SX.optOpd, SX.look, SX.putS, SX.gobs, SX.AllP, SX.leave, SX.lookC, SX.lookB, SX.lookT, SX.lookN, SX.findK, SX.evBuiltin, SX.ints, SX.foldI, SX.evBin, SX.evInt, SX.evStr, SX.evEq, SX.arith, SX.evLoad, SX.shapeUp, SX.evFieldAddr, SX.evField, SX.evIndexAddr, SX.evIndex, SX.evFill, SX.evBuild, SX.szs, SX.cellsV, SX.evNew, SX.evStore, SX.spliceL, SX.SV.cells, SX.evConv, SX.evSlice, SX.bnd, SX.evNil, SX.evUn, SX.evPick, SX.pickOpd, SX.popTo, SX.cnd, SX.env0, SX.TD.isAgg, SX.TD.isIface, SX.tails, SX.NotAgg, SX.evLookup, SX.evConvH, SX.evPtrEq, SX.isCells, SX.thaw, SX.frz, SX.fixB, SX.rootIx, SX.Froz, SX.frzStep, SX.fork, Go.Value.cells, Go.undef, cfg25, Try.f25]
  refine ⟨by (unfold SX.Ob; first | trivial | omega | ((try simp only [SX.inK]); (try simp [SX.den, SX.IsU8, *]); (try omega))), ?_⟩
  intro a1 w1 hr1 _
  refine post_append0 cfg25_ok hr1 (wanted_none rfl) rfl (by simp) rfl (t := 34) (t' := 34) rfl rfl rfl rfl rfl rfl rfl rfl (Nat.le_refl _) fun a2 hr2 => ?_
  refine seg cfg25_ok mixed PanicFree.body 1000 [] [] hr2 (by first | trivial | exact HpRep.nil | assumption) (by kernel_rfl) fun s_ hs_ => ?_
  simp (maxSteps := 10000000) [SX.vc, SX.stop, SX.contS, SX.contB, SX.contW, SX.contR, SX.contD, SX.sxStep, SX.stepPure, SX.stepNew, SX.stepStore, SX.stepKeep, SX.guardIx, SX.evOp, SX.opd, SX.opds, SX.optOpd, SX.look, SX.putS, SX.gobs, SX.AllP, SX.leave, SX.lookC, SX.lookB, SX.lookT, SX.lookN, SX.findK, SX.evBuiltin, SX.ints, SX.foldI, SX.evBin, SX.evInt, SX.evStr, SX.evEq, SX.arith, SX.evLoad, SX.shapeUp, SX.evFieldAddr, SX.evField, SX.evIndexAddr, SX.evIndex, SX.evFill, SX.evBuild, SX.szs, SX.cellsV, SX.evNew, SX.evStore, SX.spliceL, SX.SV.cells, SX.evConv, SX.evSlice, SX.bnd, SX.evNil, SX.evUn, SX.evPick, SX.pickOpd, SX.popTo, SX.cnd, SX.env0, SX.TD.isAgg, SX.TD.isIface, SX.tails, SX.NotAgg, SX.evLookup, SX.evConvH, SX.evPtrEq, SX.isCells, SX.thaw, SX.frz, SX.fixB, SX.rootIx, SX.Froz, SX.frzStep, SX.fork, Go.Value.cells, Go.undef, cfg25]
  refine ⟨by (unfold SX.Ob; first | trivial | omega | ((try simp only [SX.inK]); (try simp [SX.den, SX.IsU8, *]); (try omega))), ?_⟩
  intro a3 w3 hr3 _
  exact post_retn (end1 hr3 rfl rfl ⟨_, rfl, .inl ⟨rfl, _, _, rfl⟩, hr3.keeps.toBelow⟩).1

/-- Clone of bytes. -/
theorem cloneB_ok {P : Nat → Prop} (w : World) (v : Value) (n : Nat) (g : Nat → Int) (hv : Byts P w v n g) (hnil : ∀ c, v = .slice none n c → c = 0) (hn : n ≤ 1000000) : Calls Try.prog 25 (denL [.v v]).toArray w (CloneB w n g) := by
  rcases hv with ⟨rfl, a, cap, rfl⟩ | ⟨h0, b, o0, N, cap, u, fz, _, rfl, h2, h3⟩
  · cases a with
    | none => obtain rfl := hnil cap rfl; exact cloneB_nil w g
    | some ad => exact cloneB_empty w ad cap g
  · have := cloneB_some w b o0 N cap n u fz g h0 h2 h3 hn
    simpa [denL, den] using this
end Go.Proofs
