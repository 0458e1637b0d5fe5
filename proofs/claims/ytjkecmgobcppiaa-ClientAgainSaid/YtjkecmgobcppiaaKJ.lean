/- The client: Again. -/
import Derived.Test.YtjkecmgobcppiaaKI
namespace Go.Proofs
set_option linter.unusedVariables false
set_option linter.unusedSimpArgs false
open Go Go.SX Go.RowKit

/-- An open call's message. -/
def MsgFacts (w : World) (c : Cl) (va vd : Value) : Prop :=
  Ints w va 4 (fun j => [c.life, c.act.do_, c.act.lba, c.act.n].getD j 0) ∧ (c.act.do_ ≠ 4 → vd = .slice none 0 0) ∧
    (c.act.do_ = 4 → ∃ b u fz, vd = .slice (some ⟨b, 0, none⟩) 1 1 ∧ (SO.arr 0 1 (fun _ => [.v (.int .u8 c.act.by_)]) 1 u fz).rep w b)

/-- The same, in blocks of P. -/
def MsgF (P : Nat → Prop) (w : World) (act : Act7) (life : Int) (va vd : Value) : Prop :=
  (∃ (b o N cap : Nat) (u : TypeId) (fz : Nat × Nat), P b ∧ va = .slice (some ⟨b, o, none⟩) 4 cap ∧ 4 ≤ N ∧ (SO.arr o N (fun j => [.v (.int .i64 ([life, act.do_, act.lba, act.n].getD j 0))]) 1 u fz).rep w b) ∧
    ((act.do_ ≠ 4 ∧ vd = .slice none 0 0) ∨ (act.do_ = 4 ∧ ∃ (b : Nat) (u : TypeId) (fz : Nat × Nat), P b ∧ vd = .slice (some ⟨b, 0, none⟩) 1 1 ∧ (SO.arr 0 1 (fun _ => [.v (.int .u8 act.by_)]) 1 u fz).rep w b))

theorem MsgFacts.F {w : World} {c : Cl} {va vd : Value} {n0 : Nat} (h : MsgFacts w c va vd) (ha : ∀ b o n cp, va = .slice (some ⟨b, o, none⟩) n cp → n0 ≤ b) (hd : ∀ b o n cp, vd = .slice (some ⟨b, o, none⟩) n cp → n0 ≤ b) : MsgF (fun x => n0 ≤ x) w c.act c.life va vd := by
  obtain ⟨h1, h2, h3⟩ := h
  refine ⟨?_, ?_⟩
  · rcases h1 with ⟨h, _⟩ | ⟨_, b, o, N, cap, u, fz, e, h5, h6⟩
    · cases h
    · exact ⟨b, o, N, cap, u, fz, ha _ _ _ _ e, e, h5, h6⟩
  · by_cases h4 : c.act.do_ = 4
    · obtain ⟨b, u, fz, e, h5⟩ := h3 h4
      exact .inr ⟨h4, b, u, fz, hd _ _ _ _ e, e, h5⟩
    · exact .inl ⟨h4, h2 h4⟩

theorem MsgF.keep {P : Nat → Prop} {w w' : World} {M : List Nat} {act : Act7} {life : Int} {va vd : Value} (h : MsgF P w act life va vd) (hk : KeepsTo w M w') (hM : ∀ x ∈ M, ¬ P x) : MsgF P w' act life va vd := by
  obtain ⟨⟨b, o, N, cap, u, fz, hP, e, h5, h6⟩, h2⟩ := h
  refine ⟨⟨b, o, N, cap, u, fz, hP, e, h5, hk.same h6 fun hm => hM b hm hP⟩, ?_⟩
  rcases h2 with h | ⟨h4, b', u', fz', hP', e', h7⟩
  · exact .inl h
  · exact .inr ⟨h4, b', u', fz', hP', e', hk.same h7 fun hm => hM b' hm hP'⟩

theorem MsgF.below {P : Nat → Prop} {w w' : World} {act : Act7} {life : Int} {va vd : Value} (h : MsgF P w act life va vd) (hb : Below w.heap.size w w') : MsgF P w' act life va vd := h.keep (KeepsTo.below hb []) (by simp)

theorem MsgF.mono {P P' : Nat → Prop} {w : World} {act : Act7} {life : Int} {va vd : Value} (h : MsgF P w act life va vd) (hP : ∀ x, x < w.heap.size → P x → P' x) : MsgF P' w act life va vd := by
  obtain ⟨⟨b, o, N, cap, u, fz, hp, e, h5, h6⟩, h2⟩ := h
  refine ⟨⟨b, o, N, cap, u, fz, hP b (SO.rep_lt h6) hp, e, h5, h6⟩, ?_⟩
  rcases h2 with h | ⟨h4, b', u', fz', hp', e', h7⟩
  · exact .inl h
  · exact .inr ⟨h4, b', u', fz', hP b' (SO.rep_lt h7) hp', e', h7⟩

theorem MsgF.slices {P : Nat → Prop} {w : World} {act : Act7} {life : Int} {va vd : Value} (h : MsgF P w act life va vd) : (∃ a cp, va = .slice a 4 cp) ∧ ∃ a n cp, vd = .slice a n cp := by
  obtain ⟨⟨b, o, N, cap, u, fz, hp, e, h5, h6⟩, h2⟩ := h
  refine ⟨⟨_, _, e⟩, ?_⟩
  rcases h2 with ⟨_, h⟩ | ⟨h4, b', u', fz', hp', e', h7⟩
  · exact ⟨_, _, _, h⟩
  · exact ⟨_, _, _, e'⟩

def AgainPost (w : World) (c : Cl) (n : Nat) (f : Nat → Fin11) (e : Ending) (w' : World) : Prop :=
  ∃ dv va vd, e = .returned (.tuple #[den (.ag (clC { c with tries := c.tries + 1, done := dv })), den (.ag (msgC 1 c.name c.act.host c.id va vd)), .int .i64 0]) ∧
    Fins (fun x => w.heap.size ≤ x) w' dv n f ∧ MsgF (fun x => w.heap.size ≤ x) w' c.act c.life va vd ∧ Below w.heap.size w w'

theorem HpRep_below {H : Hp} {w w' : World} (h : HpRep H w) (hb : Below w.heap.size w w') : HpRep H w' := fun i b m o hi => SO.rep_same (h i b m o hi) (hb.block b (SO.rep_lt (h i b m o hi)))

theorem MsgFacts.keep {w w' : World} {M : List Nat} {c : Cl} {va vd : Value} {n0 : Nat} (h : MsgFacts w c va vd) (hk : KeepsTo w M w') (hM : ∀ x ∈ M, x < n0) (ha : ∀ b o n cp, va = .slice (some ⟨b, o, none⟩) n cp → n0 ≤ b) (hd : ∀ b o n cp, vd = .slice (some ⟨b, o, none⟩) n cp → n0 ≤ b) : MsgFacts w' c va vd := by
  obtain ⟨h1, h2, h3⟩ := h
  refine ⟨?_, h2, fun h4 => ?_⟩
  · rcases h1 with h | ⟨h0, b, o0, N, cap, u, fz, e, h5, h6⟩
    · exact .inl h
    · refine .inr ⟨h0, b, o0, N, cap, u, fz, e, h5, hk.same h6 fun hm => ?_⟩
      have := hM b hm
      have := ha b o0 4 cap e
      omega
  · obtain ⟨b, u, fz, e, h5⟩ := h3 h4
    refine ⟨b, u, fz, e, hk.same h5 fun hm => ?_⟩
    have := hM b hm
    have := hd b 0 1 1 e
    omega

set_option maxRecDepth 100000 in
set_option maxHeartbeats 8000000 in
theorem again_ok (w : World) (c : Cl) (P : Nat → Prop) (n : Nat) (f : Nat → Fin11) (hop : c.opn = true) (hF : Fins P w c.done n f) (hn : n ≤ 1000000) (ht : inK (c.tries + 1)) :
    Calls Try.prog 14 (denL [.ag (clC c)]).toArray w (AgainPost w c n f) := by
  obtain ⟨da, dc, hdn⟩ : ∃ a cp, c.done = .slice a n cp := by
    rcases hF with ⟨rfl, e⟩ | ⟨_, b, N, cap, u, row, _, e, _⟩
    · exact ⟨_, _, e⟩
    · exact ⟨_, _, e⟩
  rw [hdn] at hF
  refine enter (F := frame0 w) Try.func14 rfl [.ag (clC c)] [] (by simp [Try.f14]) trivial (keeps0 w) fun a hr => ?_
  refine seg cfg14_ok mixed PanicFree.body 7 [] [] hr (by first | trivial | exact HpRep.nil | assumption) (by kernel_rfl) fun s_ hs_ => ?_
  simp (maxSteps := 10000000) [SX.vc, SX.stop, SX.contS, SX.contB, SX.contW, SX.contR, SX.contD, SX.sxStep, SX.stepPure, SX.stepNew, SX.stepStore, SX.stepKeep, SX.guardIx, SX.evOp, SX.opd, SX.opds, SX.optOpd, SX.look, SX.putS, SX.gobs, SX.AllP, SX.leave, SX.lookC, SX.lookB, SX.lookT, SX.lookN, SX.findK, SX.evBuiltin, SX.ints, SX.foldI, SX.evBin, SX.evInt, SX.evStr, SX.evEq, SX.arith, SX.evLoad, SX.shapeUp, SX.evFieldAddr, SX.evField, SX.evIndexAddr, SX.evIndex, SX.evFill, SX.evBuild, SX.szs, SX.cellsV, SX.evNew, SX.evStore, SX.spliceL, SX.SV.cells, SX.evConv, SX.evSlice, SX.bnd, SX.evNil, SX.evUn, SX.evPick, SX.pickOpd, SX.popTo, SX.cnd, SX.env0, SX.TD.isAgg, SX.TD.isIface, SX.tails, SX.NotAgg, SX.evLookup, SX.evConvH, SX.evPtrEq, SX.isCells, SX.thaw, SX.frz, SX.fixB, SX.rootIx, SX.Froz, SX.frzStep, SX.fork, Go.Value.cells, Go.undef, cfg14, Try.f14, clC, hdn]
  refine ⟨by (unfold SX.Ob; first | trivial | omega | ((try simp only [SX.inK]); (try simp [SX.den, SX.IsU8, *]); (try omega))), ?_⟩
  intro a1 w1 hr1 _
  refine seg cfg14_ok mixed PanicFree.body 7 [] [] hr1 (by first | trivial | exact HpRep.nil | assumption) (by kernel_rfl) fun s_ hs_ => ?_
  simp (maxSteps := 10000000) [SX.vc, SX.stop, SX.contS, SX.contB, SX.contW, SX.contR, SX.contD, SX.sxStep, SX.stepPure, SX.stepNew, SX.stepStore, SX.stepKeep, SX.guardIx, SX.evOp, SX.opd, SX.opds, SX.optOpd, SX.look, SX.putS, SX.gobs, SX.AllP, SX.leave, SX.lookC, SX.lookB, SX.lookT, SX.lookN, SX.findK, SX.evBuiltin, SX.ints, SX.foldI, SX.evBin, SX.evInt, SX.evStr, SX.evEq, SX.arith, SX.evLoad, SX.shapeUp, SX.evFieldAddr, SX.evField, SX.evIndexAddr, SX.evIndex, SX.evFill, SX.evBuild, SX.szs, SX.cellsV, SX.evNew, SX.evStore, SX.spliceL, SX.SV.cells, SX.evConv, SX.evSlice, SX.bnd, SX.evNil, SX.evUn, SX.evPick, SX.pickOpd, SX.popTo, SX.cnd, SX.env0, SX.TD.isAgg, SX.TD.isIface, SX.tails, SX.NotAgg, SX.evLookup, SX.evConvH, SX.evPtrEq, SX.isCells, SX.thaw, SX.frz, SX.fixB, SX.rootIx, SX.Froz, SX.frzStep, SX.fork, Go.Value.cells, Go.undef, cfg14]
  refine ⟨by (unfold SX.Ob; first | trivial | omega | ((try simp only [SX.inK]); (try simp [SX.den, SX.IsU8, *]); (try omega))), ?_⟩
  intro a2 w2 hr2 _
  refine seg cfg14_ok mixed PanicFree.body 6 [false] [] hr2 (by first | trivial | exact HpRep.nil | assumption) (by kernel_rfl) fun s_ hs_ => ?_
  simp (maxSteps := 10000000) [SX.vc, SX.stop, SX.contS, SX.contB, SX.contW, SX.contR, SX.contD, SX.sxStep, SX.stepPure, SX.stepNew, SX.stepStore, SX.stepKeep, SX.guardIx, SX.evOp, SX.opd, SX.opds, SX.optOpd, SX.look, SX.putS, SX.gobs, SX.AllP, SX.leave, SX.lookC, SX.lookB, SX.lookT, SX.lookN, SX.findK, SX.evBuiltin, SX.ints, SX.foldI, SX.evBin, SX.evInt, SX.evStr, SX.evEq, SX.arith, SX.evLoad, SX.shapeUp, SX.evFieldAddr, SX.evField, SX.evIndexAddr, SX.evIndex, SX.evFill, SX.evBuild, SX.szs, SX.cellsV, SX.evNew, SX.evStore, SX.spliceL, SX.SV.cells, SX.evConv, SX.evSlice, SX.bnd, SX.evNil, SX.evUn, SX.evPick, SX.pickOpd, SX.popTo, SX.cnd, SX.env0, SX.TD.isAgg, SX.TD.isIface, SX.tails, SX.NotAgg, SX.evLookup, SX.evConvH, SX.evPtrEq, SX.isCells, SX.thaw, SX.frz, SX.fixB, SX.rootIx, SX.Froz, SX.frzStep, SX.fork, Go.Value.cells, Go.undef, cfg14, hop]
  refine ⟨by (unfold SX.Ob; first | trivial | omega | ((try simp only [SX.inK]); (try simp [SX.den, SX.IsU8, *]); (try omega))), ?_⟩
  intro a3 w3 hr3 _
  refine seg cfg14_ok mixed PanicFree.body 6 [] [] hr3 (by first | trivial | exact HpRep.nil | assumption) (by kernel_rfl) fun s_ hs_ => ?_
  simp (maxSteps := 10000000) [SX.vc, SX.stop, SX.contS, SX.contB, SX.contW, SX.contR, SX.contD, SX.sxStep, SX.stepPure, SX.stepNew, SX.stepStore, SX.stepKeep, SX.guardIx, SX.evOp, SX.opd, SX.opds, SX.optOpd, SX.look, SX.putS, SX.gobs, SX.AllP, SX.leave, SX.lookC, SX.lookB, SX.lookT, SX.lookN, SX.findK, SX.evBuiltin, SX.ints, SX.foldI, SX.evBin, SX.evInt, SX.evStr, SX.evEq, SX.arith, SX.evLoad, SX.shapeUp, SX.evFieldAddr, SX.evField, SX.evIndexAddr, SX.evIndex, SX.evFill, SX.evBuild, SX.szs, SX.cellsV, SX.evNew, SX.evStore, SX.spliceL, SX.SV.cells, SX.evConv, SX.evSlice, SX.bnd, SX.evNil, SX.evUn, SX.evPick, SX.pickOpd, SX.popTo, SX.cnd, SX.env0, SX.TD.isAgg, SX.TD.isIface, SX.tails, SX.NotAgg, SX.evLookup, SX.evConvH, SX.evPtrEq, SX.isCells, SX.thaw, SX.frz, SX.fixB, SX.rootIx, SX.Froz, SX.frzStep, SX.fork, Go.Value.cells, Go.undef, cfg14]
  refine ⟨by (unfold SX.Ob; first | trivial | omega | ((try simp only [SX.inK]); (try simp [SX.den, SX.IsU8, *]); (try omega))), ?_⟩
  intro a4 w4 hr4 _
  refine post_call 21 [.v (.slice da n dc)] hr4 (wanted_none rfl) rfl (callable 21 Try.func21) (clone_ok w4 _ n f P (hF.below hr4.keeps.toBelow) hn) ?_
  rintro e w5 ⟨dv, rfl, hF5, hb5⟩
  obtain ⟨ea, ec, rfl⟩ : ∃ a cp, dv = .slice a n cp := by
    rcases hF5 with ⟨rfl, e⟩ | ⟨_, b, N, cap, u, row, _, e, _⟩
    · exact ⟨_, _, e⟩
    · exact ⟨_, _, e⟩
  refine ⟨_, rfl, ?_⟩
  have h5 := hr4.ret hb5 12 (.v (.slice ea n ec)) rfl _ (hr4.all.below hb5) (by simp) rfl
  have hA4 := hr4.all
  have l1 := SO.rep_lt hA4.1.1
  have l2 := SO.rep_lt hA4.2.1.1
  have l3 := SO.rep_lt hA4.2.2.1.1
  have hz4 : w.heap.size ≤ w4.heap.size := hr4.keeps.size
  refine seg cfg14_ok mixed PanicFree.body 2 [] [] h5.rebase (by first | trivial | exact HpRep.nil | assumption) (by kernel_rfl) fun s_ hs_ => ?_
  simp (maxSteps := 10000000) [SX.vc, SX.stop, SX.contS, SX.contB, SX.contW, SX.contR, SX.contD, SX.sxStep, SX.stepPure, SX.stepNew, SX.stepStore, SX.stepKeep, SX.guardIx, SX.evOp, SX.opd, SX.opds, SX.optOpd, SX.look, SX.putS, SX.gobs, SX.AllP, SX.leave, SX.lookC, SX.lookB, SX.lookT, SX.lookN, SX.findK, SX.evBuiltin, SX.ints, SX.foldI, SX.evBin, SX.evInt, SX.evStr, SX.evEq, SX.arith, SX.evLoad, SX.shapeUp, SX.evFieldAddr, SX.evField, SX.evIndexAddr, SX.evIndex, SX.evFill, SX.evBuild, SX.szs, SX.cellsV, SX.evNew, SX.evStore, SX.spliceL, SX.SV.cells, SX.evConv, SX.evSlice, SX.bnd, SX.evNil, SX.evUn, SX.evPick, SX.pickOpd, SX.popTo, SX.cnd, SX.env0, SX.TD.isAgg, SX.TD.isIface, SX.tails, SX.NotAgg, SX.evLookup, SX.evConvH, SX.evPtrEq, SX.isCells, SX.thaw, SX.frz, SX.fixB, SX.rootIx, SX.Froz, SX.frzStep, SX.fork, Go.Value.cells, Go.undef, cfg14]
  refine ⟨by (unfold SX.Ob; first | trivial | omega | ((try simp only [SX.inK]); (try simp [SX.den, SX.IsU8, *]); (try omega))), ?_⟩
  intro a6 w6 hr6' _
  have hr6 := h5.unbase hr6'
  have hF6 := hF5.keep hr6'.keeps (by
    intro x hx
    simp [frameAt, mutB] at hx
    rcases hx with rfl | rfl | rfl <;> omega)
  refine seg cfg14_ok mixed PanicFree.body 7 [] [] hr6.rebase (by first | trivial | exact HpRep.nil | assumption) (by kernel_rfl) fun s_ hs_ => ?_
  simp (maxSteps := 10000000) [SX.vc, SX.stop, SX.contS, SX.contB, SX.contW, SX.contR, SX.contD, SX.sxStep, SX.stepPure, SX.stepNew, SX.stepStore, SX.stepKeep, SX.guardIx, SX.evOp, SX.opd, SX.opds, SX.optOpd, SX.look, SX.putS, SX.gobs, SX.AllP, SX.leave, SX.lookC, SX.lookB, SX.lookT, SX.lookN, SX.findK, SX.evBuiltin, SX.ints, SX.foldI, SX.evBin, SX.evInt, SX.evStr, SX.evEq, SX.arith, SX.evLoad, SX.shapeUp, SX.evFieldAddr, SX.evField, SX.evIndexAddr, SX.evIndex, SX.evFill, SX.evBuild, SX.szs, SX.cellsV, SX.evNew, SX.evStore, SX.spliceL, SX.SV.cells, SX.evConv, SX.evSlice, SX.bnd, SX.evNil, SX.evUn, SX.evPick, SX.pickOpd, SX.popTo, SX.cnd, SX.env0, SX.TD.isAgg, SX.TD.isIface, SX.tails, SX.NotAgg, SX.evLookup, SX.evConvH, SX.evPtrEq, SX.isCells, SX.thaw, SX.frz, SX.fixB, SX.rootIx, SX.Froz, SX.frzStep, SX.fork, Go.Value.cells, Go.undef, cfg14]
  refine ⟨by (unfold SX.Ob; first | trivial | omega | ((try simp only [SX.inK]); (try simp [SX.den, SX.IsU8, *]); (try omega))), ?_⟩
  intro a7 w7 hr7' _
  have hr7 := hr6.unbase hr7'
  have hF7 := hF6.keep hr7'.keeps (by
    intro x hx
    simp [frameAt, mutB] at hx
    rcases hx with rfl | rfl | rfl <;> omega)
  refine seg cfg14_ok mixed PanicFree.body 1000 [] [] hr7.rebase (by first | trivial | exact HpRep.nil | assumption) (by kernel_rfl) fun s_ hs_ => ?_
  simp (maxSteps := 10000000) [SX.vc, SX.stop, SX.contS, SX.contB, SX.contW, SX.contR, SX.contD, SX.sxStep, SX.stepPure, SX.stepNew, SX.stepStore, SX.stepKeep, SX.guardIx, SX.evOp, SX.opd, SX.opds, SX.optOpd, SX.look, SX.putS, SX.gobs, SX.AllP, SX.leave, SX.lookC, SX.lookB, SX.lookT, SX.lookN, SX.findK, SX.evBuiltin, SX.ints, SX.foldI, SX.evBin, SX.evInt, SX.evStr, SX.evEq, SX.arith, SX.evLoad, SX.shapeUp, SX.evFieldAddr, SX.evField, SX.evIndexAddr, SX.evIndex, SX.evFill, SX.evBuild, SX.szs, SX.cellsV, SX.evNew, SX.evStore, SX.spliceL, SX.SV.cells, SX.evConv, SX.evSlice, SX.bnd, SX.evNil, SX.evUn, SX.evPick, SX.pickOpd, SX.popTo, SX.cnd, SX.env0, SX.TD.isAgg, SX.TD.isIface, SX.tails, SX.NotAgg, SX.evLookup, SX.evConvH, SX.evPtrEq, SX.isCells, SX.thaw, SX.frz, SX.fixB, SX.rootIx, SX.Froz, SX.frzStep, SX.fork, Go.Value.cells, Go.undef, cfg14]
  refine ⟨by (unfold SX.Ob; first | trivial | omega | ((try simp only [SX.inK]); (try simp [SX.den, SX.IsU8, *]); (try omega))), ?_⟩
  intro a8 w8 hr8' ht8
  have hr8 := hr7.unbase hr8'
  have hF8 := hF7.keep hr8'.keeps (by
    intro x hx
    simp [frameAt, mutB] at hx
    rcases hx with rfl | rfl | rfl <;> omega)
  refine post_callD 22 [.ag (clC { c with opn := true, tries := c.tries + 1, done := .slice ea n ec })] hr8 rfl (wanted_none rfl) rfl (callable 22 Try.func22) (message_ok w8 _ trivial) ?_
  rintro e w9 ⟨va, vd, rfl, hM1, hM2, hM3, hb9, hfa, hfd⟩
  have hM9 : MsgFacts w9 c va vd := ⟨hM1, hM2, hM3⟩
  have ht9 := HpRep_below ht8 hb9
  refine ⟨_, rfl, ht9, ?_⟩
  obtain ⟨xa, xc, hva⟩ : ∃ a cp, va = .slice a 4 cp := by
    rcases hM1 with ⟨e, _⟩ | ⟨_, b, o0, N, cap, u, fz, e, _⟩
    · omega
    · exact ⟨_, _, e⟩
  obtain ⟨ya, yn, yc, hvd⟩ : ∃ a m cp, vd = .slice a m cp := by
    by_cases h4 : c.act.do_ = 4
    · obtain ⟨b, u, fz, e, _⟩ := hM3 h4
      exact ⟨_, _, _, e⟩
    · exact ⟨_, _, _, hM2 h4⟩
  have hF9 := hF8.below hb9
  have h9 := hr8.ret hb9 20 (.ag (msgC 1 c.name c.act.host c.id va vd)) rfl _ (hr8.all.below hb9) (by simp) rfl
  refine seg cfg14_ok mixed PanicFree.body 2 [] [] h9.rebase (by first | trivial | exact HpRep.nil | assumption) (by kernel_rfl) fun s_ hs_ => ?_
  simp (maxSteps := 10000000) [SX.vc, SX.stop, SX.contS, SX.contB, SX.contW, SX.contR, SX.contD, SX.sxStep, SX.stepPure, SX.stepNew, SX.stepStore, SX.stepKeep, SX.guardIx, SX.evOp, SX.opd, SX.opds, SX.optOpd, SX.look, SX.putS, SX.gobs, SX.AllP, SX.leave, SX.lookC, SX.lookB, SX.lookT, SX.lookN, SX.findK, SX.evBuiltin, SX.ints, SX.foldI, SX.evBin, SX.evInt, SX.evStr, SX.evEq, SX.arith, SX.evLoad, SX.shapeUp, SX.evFieldAddr, SX.evField, SX.evIndexAddr, SX.evIndex, SX.evFill, SX.evBuild, SX.szs, SX.cellsV, SX.evNew, SX.evStore, SX.spliceL, SX.SV.cells, SX.evConv, SX.evSlice, SX.bnd, SX.evNil, SX.evUn, SX.evPick, SX.pickOpd, SX.popTo, SX.cnd, SX.env0, SX.TD.isAgg, SX.TD.isIface, SX.tails, SX.NotAgg, SX.evLookup, SX.evConvH, SX.evPtrEq, SX.isCells, SX.thaw, SX.frz, SX.fixB, SX.rootIx, SX.Froz, SX.frzStep, SX.fork, Go.Value.cells, Go.undef, cfg14, msgC, hva, hvd]
  refine ⟨by (unfold SX.Ob; first | trivial | omega | ((try simp only [SX.inK]); (try simp [SX.den, SX.IsU8, *]); (try omega))), ?_⟩
  intro a10 w10 hr10' _
  have hr10 := h9.unbase hr10'
  refine seg cfg14_ok mixed PanicFree.body 1000 [] [] hr10.rebase (by first | trivial | exact HpRep.nil | assumption) (by kernel_rfl) fun s_ hs_ => ?_
  simp (maxSteps := 10000000) [SX.vc, SX.stop, SX.contS, SX.contB, SX.contW, SX.contR, SX.contD, SX.sxStep, SX.stepPure, SX.stepNew, SX.stepStore, SX.stepKeep, SX.guardIx, SX.evOp, SX.opd, SX.opds, SX.optOpd, SX.look, SX.putS, SX.gobs, SX.AllP, SX.leave, SX.lookC, SX.lookB, SX.lookT, SX.lookN, SX.findK, SX.evBuiltin, SX.ints, SX.foldI, SX.evBin, SX.evInt, SX.evStr, SX.evEq, SX.arith, SX.evLoad, SX.shapeUp, SX.evFieldAddr, SX.evField, SX.evIndexAddr, SX.evIndex, SX.evFill, SX.evBuild, SX.szs, SX.cellsV, SX.evNew, SX.evStore, SX.spliceL, SX.SV.cells, SX.evConv, SX.evSlice, SX.bnd, SX.evNil, SX.evUn, SX.evPick, SX.pickOpd, SX.popTo, SX.cnd, SX.env0, SX.TD.isAgg, SX.TD.isIface, SX.tails, SX.NotAgg, SX.evLookup, SX.evConvH, SX.evPtrEq, SX.isCells, SX.thaw, SX.frz, SX.fixB, SX.rootIx, SX.Froz, SX.frzStep, SX.fork, Go.Value.cells, Go.undef, cfg14]
  refine ⟨by (unfold SX.Ob; first | trivial | omega | ((try simp only [SX.inK]); (try simp [SX.den, SX.IsU8, *]); (try omega))), ?_⟩
  intro a11 w11 hr11' _
  have hr11 := hr10.unbase hr11'
  have hz8 : w4.heap.size ≤ w8.heap.size := by
    have a1 : w4.heap.size ≤ w5.heap.size := hb5.size
    have a2 : w5.heap.size ≤ w6.heap.size := hr6'.keeps.size
    have a3 : w6.heap.size ≤ w7.heap.size := hr7'.keeps.size
    have a4 : w7.heap.size ≤ w8.heap.size := hr8'.keeps.size
    omega
  have hF10 := hF9.keep hr10'.keeps (by
    intro x hx
    simp [frameAt, mutB] at hx
    rcases hx with rfl | rfl | rfl <;> omega)
  have hF11 := hF10.keep hr11'.keeps (by
    intro x hx
    simp [frameAt, mutB] at hx
    rcases hx with rfl | rfl | rfl <;> omega)
  have hM10 := hM9.keep hr10'.keeps (n0 := w8.heap.size) (by
    intro x hx
    simp [frameAt, mutB] at hx
    rcases hx with rfl | rfl | rfl <;> omega) hfa hfd
  have hM11 := hM10.keep hr11'.keeps (n0 := w8.heap.size) (by
    intro x hx
    simp [frameAt, mutB] at hx
    rcases hx with rfl | rfl | rfl <;> omega) hfa hfd
  exact post_retn (endC3 hr11 rfl rfl rfl tok29 rfl rfl tok36 rfl rfl rfl ⟨.slice ea n ec, va, vd, by rw [hva, hvd]; simp only [clC, hop]; rfl, hF11.mono fun x _ hx => by omega, (hM11.F hfa hfd).mono fun x _ hx => by omega, hr11.keeps.toBelow⟩).1
end Go.Proofs
