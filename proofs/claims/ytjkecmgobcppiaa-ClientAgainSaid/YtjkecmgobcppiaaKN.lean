/- The client: Accept. -/
import Derived.Test.YtjkecmgobcppiaaKM
namespace Go.Proofs
set_option linter.unusedVariables false
set_option linter.unusedSimpArgs false
open Go Go.SX Go.RowKit

theorem Byts.slice {P : Nat → Prop} {w : World} {v : Value} {n : Nat} {g : Nat → Int} (h : Byts P w v n g) : ∃ a cp, v = .slice a n cp := by
  rcases h with ⟨rfl, a, cp, e⟩ | ⟨_, b, o0, N, cap, u, fz, _, e, _⟩
  · exact ⟨_, _, e⟩
  · exact ⟨_, _, e⟩

theorem Byts.below {P : Nat → Prop} {w w' : World} {v : Value} {n : Nat} {g : Nat → Int} (h : Byts P w v n g) (hb : Below w.heap.size w w') : Byts P w' v n g := h.keep (KeepsTo.below hb []) (by simp)

theorem Byts.mono {P P' : Nat → Prop} {w : World} {v : Value} {n : Nat} {g : Nat → Int} (h : Byts P w v n g) (hP : ∀ x, P x → P' x) : Byts P' w v n g := by
  rcases h with h | ⟨h0, b, o0, N, cap, u, fz, hp, h⟩
  · exact .inl h
  · exact .inr ⟨h0, b, o0, N, cap, u, fz, hP b hp, h⟩

theorem Byts.monoL {P P' : Nat → Prop} {w : World} {v : Value} {n : Nat} {g : Nat → Int} (h : Byts P w v n g) (hP : ∀ x, x < w.heap.size → P x → P' x) : Byts P' w v n g := by
  rcases h with h | ⟨h0, b, o0, N, cap, u, fz, hp, h⟩
  · exact .inl h
  · exact .inr ⟨h0, b, o0, N, cap, u, fz, hP b (SO.rep_lt h.2.2) hp, h⟩

def AccYes (w : World) (c : Cl) (n : Nat) (f : Nat → Fin11) (re : Int) (nd : Nat) (gd : Nat → Int) (e : Ending) (w' : World) : Prop :=
  ∃ V vd K, e = .returned (.tuple #[den (.ag (clC (overCl c V))), .bool true]) ∧ w.heap.size ≤ K ∧ Fins (fun x => K ≤ x) w' V (n + 1) (snoc n f ⟨c.id, c.act, re, vd, c.tries⟩) ∧ Byts (fun x => w.heap.size ≤ x ∧ x < K) w' vd nd gd ∧ Below w.heap.size w w'

def AccNo (w : World) (c : Cl) (n : Nat) (f : Nat → Fin11) (e : Ending) (w' : World) : Prop :=
  ∃ V, e = .returned (.tuple #[den (.ag (clC { c with done := V })), .bool false]) ∧ Fins (fun x => w.heap.size ≤ x) w' V n f ∧ Below w.heap.size w w'

set_option maxRecDepth 100000 in
set_option maxHeartbeats 8000000 in
theorem accept_no (w : World) (c : Cl) (m : Ms) (P P' : Nat → Prop) (n : Nat) (f : Nat → Fin11) (na : Nat) (g : Nat → Int) (ma : Option Addr) (mn mc : Nat) (hans : ¬ IsAns c m na g) (hF : Fins P w c.done n f) (hn : n ≤ 1000000) (hv : Ints w m.args na g) (hmd : m.data = .slice ma mn mc) :
    Calls Try.prog 12 (denL [.ag (clC c), .ag m.c]).toArray w (AccNo w c n f) := by
  obtain ⟨da, dc, hdn⟩ := hF.slice
  obtain ⟨aa, ac, han⟩ := hv.slice
  refine enter (F := frame0 w) Try.func12 rfl [.ag (clC c), .ag m.c] [] (by simp [Try.f12]) trivial (keeps0 w) fun a hr => ?_
  refine seg cfg12_ok mixed PanicFree.body 6 [] [] hr (by first | trivial | exact HpRep.nil | assumption) (by kernel_rfl) fun s_ hs_ => ?_
  simp (maxSteps := 10000000) [SX.vc, SX.stop, SX.contS, SX.contB, SX.contW, SX.contR, SX.contD, SX.sxStep, SX.stepPure, SX.stepNew, SX.stepStore, SX.stepKeep, SX.guardIx, SX.evOp, SX.opd, SX.opds, SX.optOpd, SX.look, SX.putS, SX.gobs, SX.AllP, SX.leave, SX.lookC, SX.lookB, SX.lookT, SX.lookN, SX.findK, SX.evBuiltin, SX.ints, SX.foldI, SX.evBin, SX.evInt, SX.evStr, SX.evEq, SX.arith, SX.evLoad, SX.shapeUp, SX.evFieldAddr, SX.evField, SX.evIndexAddr, SX.evIndex, SX.evFill, SX.evBuild, SX.szs, SX.cellsV, SX.evNew, SX.evStore, SX.spliceL, SX.SV.cells, SX.evConv, SX.evSlice, SX.bnd, SX.evNil, SX.evUn, SX.evPick, SX.pickOpd, SX.popTo, SX.cnd, SX.env0, SX.TD.isAgg, SX.TD.isIface, SX.tails, SX.NotAgg, SX.evLookup, SX.evConvH, SX.evPtrEq, SX.isCells, SX.thaw, SX.frz, SX.fixB, SX.rootIx, SX.Froz, SX.frzStep, SX.fork, Go.Value.cells, Go.undef, cfg12, Try.f12, clC, Ms.c, msgC, hdn, hmd, han]
  refine ⟨by (unfold SX.Ob; first | trivial | omega | ((try simp only [SX.inK]); (try simp [SX.den, SX.IsU8, *]); (try omega))), ?_⟩
  intro a1 w1 hr1 _
  refine seg cfg12_ok mixed PanicFree.body 1000 [] [] hr1 (by first | trivial | exact HpRep.nil | assumption) (by kernel_rfl) fun s_ hs_ => ?_
  simp (maxSteps := 10000000) [SX.vc, SX.stop, SX.contS, SX.contB, SX.contW, SX.contR, SX.contD, SX.sxStep, SX.stepPure, SX.stepNew, SX.stepStore, SX.stepKeep, SX.guardIx, SX.evOp, SX.opd, SX.opds, SX.optOpd, SX.look, SX.putS, SX.gobs, SX.AllP, SX.leave, SX.lookC, SX.lookB, SX.lookT, SX.lookN, SX.findK, SX.evBuiltin, SX.ints, SX.foldI, SX.evBin, SX.evInt, SX.evStr, SX.evEq, SX.arith, SX.evLoad, SX.shapeUp, SX.evFieldAddr, SX.evField, SX.evIndexAddr, SX.evIndex, SX.evFill, SX.evBuild, SX.szs, SX.cellsV, SX.evNew, SX.evStore, SX.spliceL, SX.SV.cells, SX.evConv, SX.evSlice, SX.bnd, SX.evNil, SX.evUn, SX.evPick, SX.pickOpd, SX.popTo, SX.cnd, SX.env0, SX.TD.isAgg, SX.TD.isIface, SX.tails, SX.NotAgg, SX.evLookup, SX.evConvH, SX.evPtrEq, SX.isCells, SX.thaw, SX.frz, SX.fixB, SX.rootIx, SX.Froz, SX.frzStep, SX.fork, Go.Value.cells, Go.undef, cfg12]
  refine ⟨by (unfold SX.Ob; first | trivial | omega | ((try simp only [SX.inK]); (try simp [SX.den, SX.IsU8, *]); (try omega))), ?_⟩
  intro a2 w2 hr2 _
  refine post_call 23 [.ag (clC { c with done := .slice da n dc }), .ag (Ms.c { m with args := .slice aa na ac, data := .slice ma mn mc })] hr2 (wanted_none rfl) rfl (callable 23 Try.func23) (isans_ok w2 _ { m with args := .slice aa na ac, data := .slice ma mn mc } na g n da dc rfl mn ma mc rfl (by rw [← han]; exact hv.keep hr2.keeps.toBelow)) ?_
  rintro e w3 ⟨r, rfl, hr', hb3⟩
  have hrf : r = false := by
    cases r
    · rfl
    · exact absurd (hr'.1 rfl) hans
  subst hrf
  refine ⟨_, rfl, ?_⟩
  have h3 := hr2.ret hb3 8 (.v (.bool false)) rfl _ (hr2.all.below hb3) (by simp) rfl
  refine seg cfg12_ok mixed PanicFree.body 1000 [true] [] h3 (by first | trivial | exact HpRep.nil | assumption) (by kernel_rfl) fun s_ hs_ => ?_
  simp (maxSteps := 10000000) [SX.vc, SX.stop, SX.contS, SX.contB, SX.contW, SX.contR, SX.contD, SX.sxStep, SX.stepPure, SX.stepNew, SX.stepStore, SX.stepKeep, SX.guardIx, SX.evOp, SX.opd, SX.opds, SX.optOpd, SX.look, SX.putS, SX.gobs, SX.AllP, SX.leave, SX.lookC, SX.lookB, SX.lookT, SX.lookN, SX.findK, SX.evBuiltin, SX.ints, SX.foldI, SX.evBin, SX.evInt, SX.evStr, SX.evEq, SX.arith, SX.evLoad, SX.shapeUp, SX.evFieldAddr, SX.evField, SX.evIndexAddr, SX.evIndex, SX.evFill, SX.evBuild, SX.szs, SX.cellsV, SX.evNew, SX.evStore, SX.spliceL, SX.SV.cells, SX.evConv, SX.evSlice, SX.bnd, SX.evNil, SX.evUn, SX.evPick, SX.pickOpd, SX.popTo, SX.cnd, SX.env0, SX.TD.isAgg, SX.TD.isIface, SX.tails, SX.NotAgg, SX.evLookup, SX.evConvH, SX.evPtrEq, SX.isCells, SX.thaw, SX.frz, SX.fixB, SX.rootIx, SX.Froz, SX.frzStep, SX.fork, Go.Value.cells, Go.undef, cfg12]
  refine ⟨by (unfold SX.Ob; first | trivial | omega | ((try simp only [SX.inK]); (try simp [SX.den, SX.IsU8, *]); (try omega))), ?_⟩
  intro a4 w4 hr4 _
  rw [hdn] at hF
  refine post_call 21 [.v (.slice da n dc)] hr4 (wanted_none rfl) rfl (callable 21 Try.func21) (clone_ok w4 _ n f P (hF.below hr4.keeps.toBelow) hn) ?_
  rintro e w5 ⟨dv, rfl, hF5, hb5⟩
  obtain ⟨ea, ec, rfl⟩ := hF5.slice
  refine ⟨_, rfl, ?_⟩
  have h5 := hr4.ret hb5 12 (.v (.slice ea n ec)) rfl _ (hr4.all.below hb5) (by simp) rfl
  have hA := hr4.all
  have l1 := SO.rep_lt hA.1.1
  have l2 := SO.rep_lt hA.2.1.1
  have l3 := SO.rep_lt hA.2.2.1.1
  have hz4 : w.heap.size ≤ w4.heap.size := hr4.keeps.size
  refine seg cfg12_ok mixed PanicFree.body 2 [] [] h5.rebase (by first | trivial | exact HpRep.nil | assumption) (by kernel_rfl) fun s_ hs_ => ?_
  simp (maxSteps := 10000000) [SX.vc, SX.stop, SX.contS, SX.contB, SX.contW, SX.contR, SX.contD, SX.sxStep, SX.stepPure, SX.stepNew, SX.stepStore, SX.stepKeep, SX.guardIx, SX.evOp, SX.opd, SX.opds, SX.optOpd, SX.look, SX.putS, SX.gobs, SX.AllP, SX.leave, SX.lookC, SX.lookB, SX.lookT, SX.lookN, SX.findK, SX.evBuiltin, SX.ints, SX.foldI, SX.evBin, SX.evInt, SX.evStr, SX.evEq, SX.arith, SX.evLoad, SX.shapeUp, SX.evFieldAddr, SX.evField, SX.evIndexAddr, SX.evIndex, SX.evFill, SX.evBuild, SX.szs, SX.cellsV, SX.evNew, SX.evStore, SX.spliceL, SX.SV.cells, SX.evConv, SX.evSlice, SX.bnd, SX.evNil, SX.evUn, SX.evPick, SX.pickOpd, SX.popTo, SX.cnd, SX.env0, SX.TD.isAgg, SX.TD.isIface, SX.tails, SX.NotAgg, SX.evLookup, SX.evConvH, SX.evPtrEq, SX.isCells, SX.thaw, SX.frz, SX.fixB, SX.rootIx, SX.Froz, SX.frzStep, SX.fork, Go.Value.cells, Go.undef, cfg12]
  refine ⟨by (unfold SX.Ob; first | trivial | omega | ((try simp only [SX.inK]); (try simp [SX.den, SX.IsU8, *]); (try omega))), ?_⟩
  intro a6 w6 hr6' _
  have hr6 := h5.unbase hr6'
  have hF6 := hF5.keep hr6'.keeps (by
    intro x hx
    simp [frameAt, mutB] at hx
    rcases hx with rfl | rfl | rfl <;> omega)
  refine seg cfg12_ok mixed PanicFree.body 1000 [] [] hr6.rebase (by first | trivial | exact HpRep.nil | assumption) (by kernel_rfl) fun s_ hs_ => ?_
  simp (maxSteps := 10000000) [SX.vc, SX.stop, SX.contS, SX.contB, SX.contW, SX.contR, SX.contD, SX.sxStep, SX.stepPure, SX.stepNew, SX.stepStore, SX.stepKeep, SX.guardIx, SX.evOp, SX.opd, SX.opds, SX.optOpd, SX.look, SX.putS, SX.gobs, SX.AllP, SX.leave, SX.lookC, SX.lookB, SX.lookT, SX.lookN, SX.findK, SX.evBuiltin, SX.ints, SX.foldI, SX.evBin, SX.evInt, SX.evStr, SX.evEq, SX.arith, SX.evLoad, SX.shapeUp, SX.evFieldAddr, SX.evField, SX.evIndexAddr, SX.evIndex, SX.evFill, SX.evBuild, SX.szs, SX.cellsV, SX.evNew, SX.evStore, SX.spliceL, SX.SV.cells, SX.evConv, SX.evSlice, SX.bnd, SX.evNil, SX.evUn, SX.evPick, SX.pickOpd, SX.popTo, SX.cnd, SX.env0, SX.TD.isAgg, SX.TD.isIface, SX.tails, SX.NotAgg, SX.evLookup, SX.evConvH, SX.evPtrEq, SX.isCells, SX.thaw, SX.frz, SX.fixB, SX.rootIx, SX.Froz, SX.frzStep, SX.fork, Go.Value.cells, Go.undef, cfg12]
  refine ⟨by (unfold SX.Ob; first | trivial | omega | ((try simp only [SX.inK]); (try simp [SX.den, SX.IsU8, *]); (try omega))), ?_⟩
  intro a7 w7 hr7' _
  have hr7 := hr6.unbase hr7'
  have hF7 := hF6.keep hr7'.keeps (by
    intro x hx
    simp [frameAt, mutB] at hx
    rcases hx with rfl | rfl | rfl <;> omega)
  exact post_retn (endC2 hr7 rfl rfl rfl tok29 rfl rfl ⟨_, rfl, hF7.mono fun x _ hx => by omega, hr7.keeps.toBelow⟩).1

set_option maxRecDepth 100000 in
set_option maxHeartbeats 8000000 in
theorem accept_ok (w : World) (c : Cl) (m : Ms) (P P' : Nat → Prop) (n : Nat) (f : Nat → Fin11) (na : Nat) (g : Nat → Int) (nd : Nat) (gd : Nat → Int) (hans : IsAns c m na g) (hF : Fins P w c.done n f) (hn : n ≤ 1000000) (hv : Ints w m.args na g) (hd : Byts P' w m.data nd gd) (hnil : ∀ c, m.data = .slice none nd c → c = 0) (hnd : nd ≤ 1000000) :
    Calls Try.prog 12 (denL [.ag (clC c), .ag m.c]).toArray w (AccYes w c n f (g 0) nd gd) := by
  obtain ⟨da, dc, hdn⟩ := hF.slice
  obtain ⟨ma, mc, hmd⟩ := hd.slice
  have hv0 := hv
  have h2 : na = 2 := hans.2.2.1
  subst h2
  rcases hv with ⟨h, _⟩ | ⟨h0, b, o0, N, cap, u, fz, e, h5, h6⟩
  · cases h
  have hE : HpAll (frame0 w) w [(b, false, .arr o0 N (fun j => [.v (.int .i64 (g j))]) 1 u fz)] := ⟨⟨h6, by simp, by simp⟩, trivial⟩
  have hde : denL [.ag (clC c), .ag m.c] = denL [.ag (clC c), .ag [.v (.int .i64 m.kind), .v (.int .i64 m.from_), .v (.int .i64 m.to_), .v (.int .i64 m.id), .sl 0 b o0 0 2 cap 1, .v m.data]] := by simp only [denL, den, Ms.c, msgC, e, Nat.mul_one, Nat.add_zero]
  rw [hde]
  refine enter (F := frame0 w) Try.func12 rfl [.ag (clC c), .ag [.v (.int .i64 m.kind), .v (.int .i64 m.from_), .v (.int .i64 m.to_), .v (.int .i64 m.id), .sl 0 b o0 0 2 cap 1, .v m.data]] _ (by simp [Try.f12]) hE (keeps0 w) fun a hr => ?_
  refine seg cfg12_ok mixed PanicFree.body 6 [] [] hr (by first | trivial | exact HpRep.nil | assumption) (by kernel_rfl) fun s_ hs_ => ?_
  simp (maxSteps := 10000000) [SX.vc, SX.stop, SX.contS, SX.contB, SX.contW, SX.contR, SX.contD, SX.sxStep, SX.stepPure, SX.stepNew, SX.stepStore, SX.stepKeep, SX.guardIx, SX.evOp, SX.opd, SX.opds, SX.optOpd, SX.look, SX.putS, SX.gobs, SX.AllP, SX.leave, SX.lookC, SX.lookB, SX.lookT, SX.lookN, SX.findK, SX.evBuiltin, SX.ints, SX.foldI, SX.evBin, SX.evInt, SX.evStr, SX.evEq, SX.arith, SX.evLoad, SX.shapeUp, SX.evFieldAddr, SX.evField, SX.evIndexAddr, SX.evIndex, SX.evFill, SX.evBuild, SX.szs, SX.cellsV, SX.evNew, SX.evStore, SX.spliceL, SX.SV.cells, SX.evConv, SX.evSlice, SX.bnd, SX.evNil, SX.evUn, SX.evPick, SX.pickOpd, SX.popTo, SX.cnd, SX.env0, SX.TD.isAgg, SX.TD.isIface, SX.tails, SX.NotAgg, SX.evLookup, SX.evConvH, SX.evPtrEq, SX.isCells, SX.thaw, SX.frz, SX.fixB, SX.rootIx, SX.Froz, SX.frzStep, SX.fork, Go.Value.cells, Go.undef, cfg12, Try.f12, clC, hdn, hmd]
  refine ⟨by (unfold SX.Ob; first | trivial | omega | ((try simp only [SX.inK]); (try simp [SX.den, SX.IsU8, *]); (try omega))), ?_⟩
  intro a1 w1 hr1 _
  refine seg cfg12_ok mixed PanicFree.body 1000 [] [] hr1 (by first | trivial | exact HpRep.nil | assumption) (by kernel_rfl) fun s_ hs_ => ?_
  simp (maxSteps := 10000000) [SX.vc, SX.stop, SX.contS, SX.contB, SX.contW, SX.contR, SX.contD, SX.sxStep, SX.stepPure, SX.stepNew, SX.stepStore, SX.stepKeep, SX.guardIx, SX.evOp, SX.opd, SX.opds, SX.optOpd, SX.look, SX.putS, SX.gobs, SX.AllP, SX.leave, SX.lookC, SX.lookB, SX.lookT, SX.lookN, SX.findK, SX.evBuiltin, SX.ints, SX.foldI, SX.evBin, SX.evInt, SX.evStr, SX.evEq, SX.arith, SX.evLoad, SX.shapeUp, SX.evFieldAddr, SX.evField, SX.evIndexAddr, SX.evIndex, SX.evFill, SX.evBuild, SX.szs, SX.cellsV, SX.evNew, SX.evStore, SX.spliceL, SX.SV.cells, SX.evConv, SX.evSlice, SX.bnd, SX.evNil, SX.evUn, SX.evPick, SX.pickOpd, SX.popTo, SX.cnd, SX.env0, SX.TD.isAgg, SX.TD.isIface, SX.tails, SX.NotAgg, SX.evLookup, SX.evConvH, SX.evPtrEq, SX.isCells, SX.thaw, SX.frz, SX.fixB, SX.rootIx, SX.Froz, SX.frzStep, SX.fork, Go.Value.cells, Go.undef, cfg12]
  refine ⟨by (unfold SX.Ob; first | trivial | omega | ((try simp only [SX.inK]); (try simp [SX.den, SX.IsU8, *]); (try omega))), ?_⟩
  intro a2 w2 hr2 _
  have hI := isans_ok w2 { c with done := .slice da n dc } { m with data := .slice ma nd mc } 2 g n da dc rfl nd ma mc rfl (hv0.keep hr2.keeps.toBelow)
  have hde2 : denL [.ag (clC { c with done := .slice da n dc }), .ag (Ms.c { m with data := .slice ma nd mc })] = denL [.ag (clC { c with done := .slice da n dc }), .ag [.v (.int .i64 m.kind), .v (.int .i64 m.from_), .v (.int .i64 m.to_), .v (.int .i64 m.id), .sl 0 b o0 0 2 cap 1, .v (.slice ma nd mc)]] := by simp only [denL, den, Ms.c, msgC, e, Nat.mul_one, Nat.add_zero]
  rw [hde2] at hI
  refine post_call 23 [.ag (clC { c with done := .slice da n dc }), .ag [.v (.int .i64 m.kind), .v (.int .i64 m.from_), .v (.int .i64 m.to_), .v (.int .i64 m.id), .sl 0 b o0 0 2 cap 1, .v (.slice ma nd mc)]] hr2 (wanted_none rfl) rfl (callable 23 Try.func23) hI ?_
  rintro e' w3 ⟨r, rfl, hr', hb3⟩
  have hrf : r = true := hr'.2 hans
  subst hrf
  refine ⟨_, rfl, ?_⟩
  have h3 := hr2.ret hb3 8 (.v (.bool true)) rfl _ (hr2.all.below hb3) (by simp) rfl
  refine seg cfg12_ok mixed PanicFree.body 7 [false] [] h3 (by first | trivial | exact HpRep.nil | assumption) (by kernel_rfl) fun s_ hs_ => ?_
  simp (maxSteps := 10000000) [SX.vc, SX.stop, SX.contS, SX.contB, SX.contW, SX.contR, SX.contD, SX.sxStep, SX.stepPure, SX.stepNew, SX.stepStore, SX.stepKeep, SX.guardIx, SX.evOp, SX.opd, SX.opds, SX.optOpd, SX.look, SX.putS, SX.gobs, SX.AllP, SX.leave, SX.lookC, SX.lookB, SX.lookT, SX.lookN, SX.findK, SX.evBuiltin, SX.ints, SX.foldI, SX.evBin, SX.evInt, SX.evStr, SX.evEq, SX.arith, SX.evLoad, SX.shapeUp, SX.evFieldAddr, SX.evField, SX.evIndexAddr, SX.evIndex, SX.evFill, SX.evBuild, SX.szs, SX.cellsV, SX.evNew, SX.evStore, SX.spliceL, SX.SV.cells, SX.evConv, SX.evSlice, SX.bnd, SX.evNil, SX.evUn, SX.evPick, SX.pickOpd, SX.popTo, SX.cnd, SX.env0, SX.TD.isAgg, SX.TD.isIface, SX.tails, SX.NotAgg, SX.evLookup, SX.evConvH, SX.evPtrEq, SX.isCells, SX.thaw, SX.frz, SX.fixB, SX.rootIx, SX.Froz, SX.frzStep, SX.fork, Go.Value.cells, Go.undef, cfg12]
  refine ⟨by (unfold SX.Ob; first | trivial | omega | ((try simp only [SX.inK]); (try simp [SX.den, SX.IsU8, *]); (try omega))), ?_⟩
  intro a4 w4 hr4 ht4
  refine seg cfg12_ok mixed PanicFree.body 1000 [] [] hr4 (by first | trivial | exact HpRep.nil | assumption) (by kernel_rfl) fun s_ hs_ => ?_
  simp (maxSteps := 10000000) [SX.vc, SX.stop, SX.contS, SX.contB, SX.contW, SX.contR, SX.contD, SX.sxStep, SX.stepPure, SX.stepNew, SX.stepStore, SX.stepKeep, SX.guardIx, SX.evOp, SX.opd, SX.opds, SX.optOpd, SX.look, SX.putS, SX.gobs, SX.AllP, SX.leave, SX.lookC, SX.lookB, SX.lookT, SX.lookN, SX.findK, SX.evBuiltin, SX.ints, SX.foldI, SX.evBin, SX.evInt, SX.evStr, SX.evEq, SX.arith, SX.evLoad, SX.shapeUp, SX.evFieldAddr, SX.evField, SX.evIndexAddr, SX.evIndex, SX.evFill, SX.evBuild, SX.szs, SX.cellsV, SX.evNew, SX.evStore, SX.spliceL, SX.SV.cells, SX.evConv, SX.evSlice, SX.bnd, SX.evNil, SX.evUn, SX.evPick, SX.pickOpd, SX.popTo, SX.cnd, SX.env0, SX.TD.isAgg, SX.TD.isIface, SX.tails, SX.NotAgg, SX.evLookup, SX.evConvH, SX.evPtrEq, SX.isCells, SX.thaw, SX.frz, SX.fixB, SX.rootIx, SX.Froz, SX.frzStep, SX.fork, Go.Value.cells, Go.undef, cfg12]
  refine ⟨by (unfold SX.Ob; first | trivial | omega | ((try simp only [SX.inK]); (try simp [SX.den, SX.IsU8, *]); (try omega))), ?_⟩
  intro a5 w5 hr5 ht5
  rw [hmd] at hd hnil
  rw [hdn] at hF
  refine post_callD 25 [.v (.slice ma nd mc)] hr5 rfl (wanted_none rfl) rfl (callable 25 Try.func25) (cloneB_ok w5 _ nd gd (hd.below hr5.keeps.toBelow) hnil hnd) ?_
  rintro e6 w6 ⟨vd, rfl, hD6, hb6⟩
  obtain ⟨va, vc, rfl⟩ := hD6.slice
  have ht6 := HpRep_below ht5 hb6
  refine ⟨_, rfl, ht6, ?_⟩
  have h6 := hr5.ret hb6 22 (.v (.slice va nd vc)) rfl _ (hr5.all.below hb6) (by simp) rfl
  have hA := hr5.all
  have l2 := SO.rep_lt hA.2.1.1
  have l3 := SO.rep_lt hA.2.2.1.1
  have l4 := SO.rep_lt hA.2.2.2.1.1
  have hz5 : w.heap.size ≤ w5.heap.size := hr5.keeps.size
  have hz6 : w5.heap.size ≤ w6.heap.size := hb6.size
  refine seg cfg12_ok mixed PanicFree.body 1000 [] [] h6.rebase (by first | trivial | exact HpRep.nil | assumption) (by kernel_rfl) fun s_ hs_ => ?_
  simp (maxSteps := 10000000) [SX.vc, SX.stop, SX.contS, SX.contB, SX.contW, SX.contR, SX.contD, SX.sxStep, SX.stepPure, SX.stepNew, SX.stepStore, SX.stepKeep, SX.guardIx, SX.evOp, SX.opd, SX.opds, SX.optOpd, SX.look, SX.putS, SX.gobs, SX.AllP, SX.leave, SX.lookC, SX.lookB, SX.lookT, SX.lookN, SX.findK, SX.evBuiltin, SX.ints, SX.foldI, SX.evBin, SX.evInt, SX.evStr, SX.evEq, SX.arith, SX.evLoad, SX.shapeUp, SX.evFieldAddr, SX.evField, SX.evIndexAddr, SX.evIndex, SX.evFill, SX.evBuild, SX.szs, SX.cellsV, SX.evNew, SX.evStore, SX.spliceL, SX.SV.cells, SX.evConv, SX.evSlice, SX.bnd, SX.evNil, SX.evUn, SX.evPick, SX.pickOpd, SX.popTo, SX.cnd, SX.env0, SX.TD.isAgg, SX.TD.isIface, SX.tails, SX.NotAgg, SX.evLookup, SX.evConvH, SX.evPtrEq, SX.isCells, SX.thaw, SX.frz, SX.fixB, SX.rootIx, SX.Froz, SX.frzStep, SX.fork, Go.Value.cells, Go.undef, cfg12]
  refine ⟨by (unfold SX.Ob; first | trivial | omega | ((try simp only [SX.inK]); (try simp [SX.den, SX.IsU8, *]); (try omega))), ?_⟩
  intro a7 w7 hr7' ht7
  have hr7 := h6.unbase hr7'
  have hD7 := (hD6.monoL (P' := fun x => w5.heap.size ≤ x ∧ x < w6.heap.size) fun x e1 e2 => ⟨e2, e1⟩).keep hr7'.keeps (by
    intro x hx
    simp [frameAt, mutB] at hx
    rcases hx with rfl | rfl | rfl <;> omega)
  refine post_callD 24 [.ag (clC { c with done := .slice da n dc }), .ag (resC (g 0) (.slice va nd vc))] hr7 rfl (wanted_none rfl) rfl (callable 24 Try.func24) (over_ok w7 _ P n f (g 0) va nd vc (hF.below hr7.keeps.toBelow) hn) ?_
  rintro e8 w8 ⟨V, rfl, hF8, hb8⟩
  obtain ⟨Va, Vc, rfl⟩ := hF8.slice
  have ht8 := HpRep_below ht7 hb8
  refine ⟨_, rfl, ht8, ?_⟩
  have hD8 := hD7.below hb8
  have hz7 : w6.heap.size ≤ w7.heap.size := hr7'.keeps.size
  have h8 := hr7.ret hb8 24 (.ag (clC (overCl c (.slice Va (n + 1) Vc)))) rfl _ (hr7.all.below hb8) (by simp) rfl
  refine seg cfg12_ok mixed PanicFree.body 1000 [] [] h8.rebase (by first | trivial | exact HpRep.nil | assumption) (by kernel_rfl) fun s_ hs_ => ?_
  simp (maxSteps := 10000000) [SX.vc, SX.stop, SX.contS, SX.contB, SX.contW, SX.contR, SX.contD, SX.sxStep, SX.stepPure, SX.stepNew, SX.stepStore, SX.stepKeep, SX.guardIx, SX.evOp, SX.opd, SX.opds, SX.optOpd, SX.look, SX.putS, SX.gobs, SX.AllP, SX.leave, SX.lookC, SX.lookB, SX.lookT, SX.lookN, SX.findK, SX.evBuiltin, SX.ints, SX.foldI, SX.evBin, SX.evInt, SX.evStr, SX.evEq, SX.arith, SX.evLoad, SX.shapeUp, SX.evFieldAddr, SX.evField, SX.evIndexAddr, SX.evIndex, SX.evFill, SX.evBuild, SX.szs, SX.cellsV, SX.evNew, SX.evStore, SX.spliceL, SX.SV.cells, SX.evConv, SX.evSlice, SX.bnd, SX.evNil, SX.evUn, SX.evPick, SX.pickOpd, SX.popTo, SX.cnd, SX.env0, SX.TD.isAgg, SX.TD.isIface, SX.tails, SX.NotAgg, SX.evLookup, SX.evConvH, SX.evPtrEq, SX.isCells, SX.thaw, SX.frz, SX.fixB, SX.rootIx, SX.Froz, SX.frzStep, SX.fork, Go.Value.cells, Go.undef, cfg12, clC, overCl]
  refine ⟨by (unfold SX.Ob; first | trivial | omega | ((try simp only [SX.inK]); (try simp [SX.den, SX.IsU8, *]); (try omega))), ?_⟩
  intro a9 w9 hr9' _
  have hr9 := h8.unbase hr9'
  have hF9 := hF8.keep hr9'.keeps (by
    intro x hx
    simp [frameAt, mutB] at hx
    rcases hx with rfl | rfl | rfl <;> omega)
  have hD9 := hD8.keep hr9'.keeps (by
    intro x hx
    simp [frameAt, mutB] at hx
    rcases hx with rfl | rfl | rfl <;> omega)
  exact post_retn (endC2 hr9 rfl rfl rfl tok29 rfl rfl ⟨_, _, w7.heap.size, rfl, by omega, hF9, hD9.mono fun x hx => ⟨by omega, by omega⟩, hr9.keeps.toBelow⟩).1
end Go.Proofs
