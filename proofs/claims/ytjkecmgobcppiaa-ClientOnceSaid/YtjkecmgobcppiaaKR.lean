/- The client: what each operation does, in one form. -/
import Derived.Test.YtjkecmgobcppiaaKQ
namespace Go.Proofs
set_option linter.unusedVariables false
set_option linter.unusedSimpArgs false
open Go Go.SX Go.RowKit

def IsSlice (v : Value) : Prop := ∃ a n c, v = .slice a n c

def Res3 (w : World) (Q : Cl → Int → Int → Nat → (Nat → Fin11) → Prop) (e : Ending) (w' : World) : Prop :=
  ∃ x k fr to mid va vd er n' f', e = .returned (.tuple #[den (.ag (clC x)), den (.ag (msgC k fr to mid va vd)), .int .i64 er]) ∧ IsSlice va ∧ IsSlice vd ∧ Fins (fun b => w.heap.size ≤ b) w' x.done n' f' ∧ Below w.heap.size w w' ∧ Q x mid er n' f'

def Res2 (w : World) (Q : Cl → Value → Nat → (Nat → Fin11) → Prop) (e : Ending) (w' : World) : Prop :=
  ∃ x v n' f', e = .returned (.tuple #[den (.ag (clC x)), v]) ∧ Fins (fun b => w.heap.size ≤ b) w' x.done n' f' ∧ Below w.heap.size w w' ∧ Q x v n' f'

def QBegin (c : Cl) (n : Nat) (f : Nat → Fin11) (x : Cl) (mid er : Int) (n' : Nat) (f' : Nat → Fin11) : Prop :=
  er = 0 → c.opn = false ∧ x.opn = true ∧ mid = c.next ∧ x.id = c.next ∧ x.next = c.next + 1 ∧ x.tries = 1 ∧ n' = n ∧ f' = f

theorem begin_any (w : World) (c : Cl) (act : Act7) (life : Int) (P : Nat → Prop) (n : Nat) (f : Nat → Fin11) (hF : Fins P w c.done n f) (hn : n ≤ 1000000) (hnx : inK (c.next + 1)) :
    Calls Try.prog 11 (denL [.ag (clC c), .ag (actC act), .v (.int .i64 life)]).toArray w (Res3 w (QBegin c n f)) := by
  obtain ⟨da, dc, hdn⟩ := hF.slice
  by_cases hop : c.opn = true
  · refine (begin_held w c act life da n dc hdn hop).mono ?_
    rintro e w' ⟨er, h0, rfl, hb⟩
    exact ⟨cl0, 0, 0, 0, 0, .slice none 0 0, .slice none 0 0, er, 0, f, rfl, ⟨_, _, _, rfl⟩, ⟨_, _, _, rfl⟩, .inl ⟨rfl, rfl⟩, hb, fun h => absurd h h0⟩
  · have hop' : c.opn = false := by simpa using hop
    by_cases hV : Valid act life
    · refine (begin_ok w c act life P n f hF hn hop' hV hnx).mono ?_
      rintro e w' ⟨dv, va, vd, rfl, h1, h2, hb⟩
      obtain ⟨⟨_, _, e1⟩, _, _, _, e2⟩ := h2.slices
      exact ⟨begun c act life dv, 1, c.name, act.host, c.next, va, vd, 0, n, f, rfl, ⟨_, _, _, e1⟩, ⟨_, _, _, e2⟩, h1, hb, fun _ => ⟨hop', rfl, rfl, rfl, rfl, rfl, rfl, rfl⟩⟩
    · refine (begin_no w c act life da n dc hdn hop' hV).mono ?_
      rintro e w' ⟨er, h0, rfl, hb⟩
      exact ⟨cl0, 0, 0, 0, 0, .slice none 0 0, .slice none 0 0, er, 0, f, rfl, ⟨_, _, _, rfl⟩, ⟨_, _, _, rfl⟩, .inl ⟨rfl, rfl⟩, hb, fun h => absurd h h0⟩

set_option maxRecDepth 100000 in
set_option maxHeartbeats 8000000 in
theorem again_no (w : World) (c : Cl) (dn : Nat) (da : Option Addr) (dc : Nat) (hdn : c.done = .slice da dn dc) (hop : c.opn = false) : Calls Try.prog 14 (denL [.ag (clC c)]).toArray w (BeginNo w) := by
  refine enter (F := frame0 w) Try.func14 rfl [.ag (clC c)] [] (by simp [Try.f14]) trivial (keeps0 w) fun a hr => ?_
  refine seg cfg14_ok mixed PanicFree.body 7 [] [] hr (by first | trivial | exact HpRep.nil | assumption) (by kernel_rfl) fun s_ hs_ => ?_
  simp (maxSteps := 10000000) [SX.vc, SX.stop, SX.contS, SX.contB, SX.contW, SX.contR, SX.contD, SX.sxStep, SX.stepPure, SX.stepNew, SX.stepStore, SX.stepKeep, SX.guardIx, SX.evOp, SX.opd, SX.opds, SX.optOpd, SX.look, SX.putS, SX.gobs, SX.AllP, SX.leave, SX.lookC, SX.lookB, SX.lookT, SX.lookN, SX.findK, SX.evBuiltin, SX.ints, SX.foldI, SX.evBin, SX.evInt, SX.evStr, SX.evEq, SX.arith, SX.evLoad, SX.shapeUp, SX.evFieldAddr, SX.evField, SX.evIndexAddr, SX.evIndex, SX.evFill, SX.evBuild, SX.szs, SX.cellsV, SX.evNew, SX.evStore, SX.spliceL, SX.SV.cells, SX.evConv, SX.evSlice, SX.bnd, SX.evNil, SX.evUn, SX.evPick, SX.pickOpd, SX.popTo, SX.cnd, SX.env0, SX.TD.isAgg, SX.TD.isIface, SX.tails, SX.NotAgg, SX.evLookup, SX.evConvH, SX.evPtrEq, SX.isCells, SX.thaw, SX.frz, SX.fixB, SX.rootIx, SX.Froz, SX.frzStep, SX.fork, Go.Value.cells, Go.undef, cfg14, Try.f14, clC, hdn]
  refine ⟨by (unfold SX.Ob; first | trivial | omega | ((try simp only [SX.inK]); (try simp [SX.den, SX.IsU8, *]); (try omega))), ?_⟩
  intro a1 w1 hr1 _
  refine seg cfg14_ok mixed PanicFree.body 2 [] [] hr1 (by first | trivial | exact HpRep.nil | assumption) (by kernel_rfl) fun s_ hs_ => ?_
  simp (maxSteps := 10000000) [SX.vc, SX.stop, SX.contS, SX.contB, SX.contW, SX.contR, SX.contD, SX.sxStep, SX.stepPure, SX.stepNew, SX.stepStore, SX.stepKeep, SX.guardIx, SX.evOp, SX.opd, SX.opds, SX.optOpd, SX.look, SX.putS, SX.gobs, SX.AllP, SX.leave, SX.lookC, SX.lookB, SX.lookT, SX.lookN, SX.findK, SX.evBuiltin, SX.ints, SX.foldI, SX.evBin, SX.evInt, SX.evStr, SX.evEq, SX.arith, SX.evLoad, SX.shapeUp, SX.evFieldAddr, SX.evField, SX.evIndexAddr, SX.evIndex, SX.evFill, SX.evBuild, SX.szs, SX.cellsV, SX.evNew, SX.evStore, SX.spliceL, SX.SV.cells, SX.evConv, SX.evSlice, SX.bnd, SX.evNil, SX.evUn, SX.evPick, SX.pickOpd, SX.popTo, SX.cnd, SX.env0, SX.TD.isAgg, SX.TD.isIface, SX.tails, SX.NotAgg, SX.evLookup, SX.evConvH, SX.evPtrEq, SX.isCells, SX.thaw, SX.frz, SX.fixB, SX.rootIx, SX.Froz, SX.frzStep, SX.fork, Go.Value.cells, Go.undef, cfg14, hop]
  refine ⟨by (unfold SX.Ob; first | trivial | omega | ((try simp only [SX.inK]); (try simp [SX.den, SX.IsU8, *]); (try omega))), ?_⟩
  intro a2 w2 hr2 _
  refine seg cfg14_ok mixed PanicFree.body 6 [true] [] hr2 (by first | trivial | exact HpRep.nil | assumption) (by kernel_rfl) fun s_ hs_ => ?_
  simp (maxSteps := 10000000) [SX.vc, SX.stop, SX.contS, SX.contB, SX.contW, SX.contR, SX.contD, SX.sxStep, SX.stepPure, SX.stepNew, SX.stepStore, SX.stepKeep, SX.guardIx, SX.evOp, SX.opd, SX.opds, SX.optOpd, SX.look, SX.putS, SX.gobs, SX.AllP, SX.leave, SX.lookC, SX.lookB, SX.lookT, SX.lookN, SX.findK, SX.evBuiltin, SX.ints, SX.foldI, SX.evBin, SX.evInt, SX.evStr, SX.evEq, SX.arith, SX.evLoad, SX.shapeUp, SX.evFieldAddr, SX.evField, SX.evIndexAddr, SX.evIndex, SX.evFill, SX.evBuild, SX.szs, SX.cellsV, SX.evNew, SX.evStore, SX.spliceL, SX.SV.cells, SX.evConv, SX.evSlice, SX.bnd, SX.evNil, SX.evUn, SX.evPick, SX.pickOpd, SX.popTo, SX.cnd, SX.env0, SX.TD.isAgg, SX.TD.isIface, SX.tails, SX.NotAgg, SX.evLookup, SX.evConvH, SX.evPtrEq, SX.isCells, SX.thaw, SX.frz, SX.fixB, SX.rootIx, SX.Froz, SX.frzStep, SX.fork, Go.Value.cells, Go.undef, cfg14, hop]
  refine ⟨by (unfold SX.Ob; first | trivial | omega | ((try simp only [SX.inK]); (try simp [SX.den, SX.IsU8, *]); (try omega))), ?_⟩
  intro a3 w3 hr3 _
  refine seg cfg14_ok mixed PanicFree.body 1000 [] [] hr3 (by first | trivial | exact HpRep.nil | assumption) (by kernel_rfl) fun s_ hs_ => ?_
  simp (maxSteps := 10000000) [SX.vc, SX.stop, SX.contS, SX.contB, SX.contW, SX.contR, SX.contD, SX.sxStep, SX.stepPure, SX.stepNew, SX.stepStore, SX.stepKeep, SX.guardIx, SX.evOp, SX.opd, SX.opds, SX.optOpd, SX.look, SX.putS, SX.gobs, SX.AllP, SX.leave, SX.lookC, SX.lookB, SX.lookT, SX.lookN, SX.findK, SX.evBuiltin, SX.ints, SX.foldI, SX.evBin, SX.evInt, SX.evStr, SX.evEq, SX.arith, SX.evLoad, SX.shapeUp, SX.evFieldAddr, SX.evField, SX.evIndexAddr, SX.evIndex, SX.evFill, SX.evBuild, SX.szs, SX.cellsV, SX.evNew, SX.evStore, SX.spliceL, SX.SV.cells, SX.evConv, SX.evSlice, SX.bnd, SX.evNil, SX.evUn, SX.evPick, SX.pickOpd, SX.popTo, SX.cnd, SX.env0, SX.TD.isAgg, SX.TD.isIface, SX.tails, SX.NotAgg, SX.evLookup, SX.evConvH, SX.evPtrEq, SX.isCells, SX.thaw, SX.frz, SX.fixB, SX.rootIx, SX.Froz, SX.frzStep, SX.fork, Go.Value.cells, Go.undef, cfg14]
  refine ⟨by (unfold SX.Ob; first | trivial | omega | ((try simp only [SX.inK]); (try simp [SX.den, SX.IsU8, *]); (try omega))), ?_⟩
  intro a4 w4 hr4 _
  exact post_retn (endC3 hr4 rfl rfl rfl tok29 rfl rfl tok36 rfl rfl rfl ⟨_, by decide, rfl, hr4.keeps.toBelow⟩).1

def QAgain (c : Cl) (n : Nat) (f : Nat → Fin11) (x : Cl) (mid er : Int) (n' : Nat) (f' : Nat → Fin11) : Prop :=
  er = 0 → c.opn = true ∧ x.opn = true ∧ mid = c.id ∧ x.id = c.id ∧ x.next = c.next ∧ x.tries = c.tries + 1 ∧ n' = n ∧ f' = f

theorem again_any (w : World) (c : Cl) (P : Nat → Prop) (n : Nat) (f : Nat → Fin11) (hF : Fins P w c.done n f) (hn : n ≤ 1000000) (ht : inK (c.tries + 1)) :
    Calls Try.prog 14 (denL [.ag (clC c)]).toArray w (Res3 w (QAgain c n f)) := by
  obtain ⟨da, dc, hdn⟩ := hF.slice
  by_cases hop : c.opn = true
  · refine (again_ok w c P n f hop hF hn ht).mono ?_
    rintro e w' ⟨dv, va, vd, rfl, h1, h2, hb⟩
    obtain ⟨⟨_, _, e1⟩, _, _, _, e2⟩ := h2.slices
    exact ⟨_, 1, c.name, c.act.host, c.id, va, vd, 0, n, f, rfl, ⟨_, _, _, e1⟩, ⟨_, _, _, e2⟩, h1, hb, fun _ => ⟨hop, hop, rfl, rfl, rfl, rfl, rfl, rfl⟩⟩
  · have hop' : c.opn = false := by simpa using hop
    refine (again_no w c n da dc hdn hop').mono ?_
    rintro e w' ⟨er, h0, rfl, hb⟩
    exact ⟨cl0, 0, 0, 0, 0, .slice none 0 0, .slice none 0 0, er, 0, f, rfl, ⟨_, _, _, rfl⟩, ⟨_, _, _, rfl⟩, .inl ⟨rfl, rfl⟩, hb, fun h => absurd h h0⟩

/-- What is over behind an end, and what not. -/
def QOver (c : Cl) (n : Nat) (f : Nat → Fin11) (x : Cl) (is : Bool) (n' : Nat) (f' : Nat → Fin11) : Prop :=
  x.next = c.next ∧ (is = false → x.opn = c.opn ∧ x.id = c.id ∧ x.tries = c.tries ∧ n' = n ∧ f' = f) ∧ (is = true → c.opn = true ∧ x.opn = false ∧ x.tries = 0 ∧ n' = n + 1 ∧ ∃ y, f' = snoc n f y ∧ y.id = c.id ∧ y.tries = c.tries)

theorem accept_any (w : World) (c : Cl) (m : Ms) (P P' : Nat → Prop) (n : Nat) (f : Nat → Fin11) (na : Nat) (g : Nat → Int) (nd : Nat) (gd : Nat → Int) (hF : Fins P w c.done n f) (hn : n ≤ 1000000) (hv : Ints w m.args na g) (hd : Byts P' w m.data nd gd) (hnil : ∀ c, m.data = .slice none nd c → c = 0) (hnd : nd ≤ 1000000) :
    Calls Try.prog 12 (denL [.ag (clC c), .ag m.c]).toArray w (Res2 w fun x v n' f' => ∃ is, v = .bool is ∧ QOver c n f x is n' f') := by
  obtain ⟨ma, mc, hmd⟩ := hd.slice
  by_cases hans : IsAns c m na g
  · refine (accept_ok w c m P P' n f na g nd gd hans hF hn hv hd hnil hnd).mono ?_
    rintro e w' ⟨V, vd, rfl, h1, _, hb⟩
    exact ⟨_, _, _, _, rfl, h1, hb, true, rfl, rfl, by simp, fun _ => ⟨hans.1, rfl, rfl, rfl, _, rfl, rfl, rfl⟩⟩
  · refine (accept_no w c m P P' n f na g ma nd mc hans hF hn hv hmd).mono ?_
    rintro e w' ⟨V, rfl, h1, hb⟩
    exact ⟨_, _, _, _, rfl, h1, hb, false, rfl, rfl, fun _ => ⟨rfl, rfl, rfl, rfl, rfl⟩, by simp⟩

theorem quit_any (w : World) (c : Cl) (P : Nat → Prop) (n : Nat) (f : Nat → Fin11) (hF : Fins P w c.done n f) (hn : n ≤ 1000000) :
    Calls Try.prog 16 (denL [.ag (clC c)]).toArray w (Res2 w fun x v n' f' => ∃ er, v = .int .i64 er ∧ (er = 0 → QOver c n f x true n' f')) := by
  obtain ⟨da, dc, hdn⟩ := hF.slice
  by_cases hop : c.opn = true
  · refine (quit_ok w c P n f hop hF hn).mono ?_
    rintro e w' ⟨V, rfl, h1, hb⟩
    exact ⟨_, _, _, _, rfl, h1, hb, 0, rfl, fun _ => ⟨rfl, by simp, fun _ => ⟨hop, rfl, rfl, rfl, _, rfl, rfl, rfl⟩⟩⟩
  · refine (quit_no w c n da dc hdn (by simpa using hop)).mono ?_
    rintro e w' ⟨rfl, hb⟩
    exact ⟨cl0, _, 0, f, rfl, .inl ⟨rfl, rfl⟩, hb, 4, rfl, by intro h; cases h⟩
end Go.Proofs
