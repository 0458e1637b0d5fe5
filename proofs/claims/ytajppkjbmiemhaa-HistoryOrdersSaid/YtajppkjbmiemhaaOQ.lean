/- Histories: the stable sort. -/
import Derived.Test.YtajppkjbmiemhaaOP
namespace Go.Proofs
set_option linter.unusedVariables false
set_option linter.unusedSimpArgs false
set_option linter.unusedSectionVars false
open Go Go.SX Go.RowKit Go.Hist

/-- From a place on, sorted block by block. -/
inductive Bl (key : HEv → Int) (bs n : Nat) (G : Nat → HEv) : Nat → Prop
  | done {a : Nat} : n ≤ a → Bl key bs n G a
  | step {a : Nat} : SortF key a (min (a + bs) n) G → Bl key bs n G (a + bs) → Bl key bs n G a
theorem SortF.congr {key : HEv → Int} {a b : Nat} {G G' : Nat → HEv} (h : SortF key a b G) (hg : ∀ j, a ≤ j → j < b → G' j = G j) : SortF key a b G' := fun i j hi hij hj => by
  rw [hg i hi (by omega), hg j (by omega) hj]
  exact h i j hi hij hj
theorem Bl.congr {key : HEv → Int} {bs n : Nat} {G G' : Nat → HEv} {a : Nat} (h : Bl key bs n G a) (hg : ∀ j, a ≤ j → G' j = G j) : Bl key bs n G' a := by
  induction h with
  | done h => exact .done h
  | step h1 h2 ih => exact .step (h1.congr fun j hj _ => hg j hj) (ih fun j hj => hg j (by omega))
def Pre (key : HEv → Int) (bs n : Nat) (G : Nat → HEv) (a : Nat) : Prop := ∀ G', (∀ j, j < a → G' j = G j) → Bl key bs n G' a → Bl key bs n G' 0
theorem Pre.zero {key : HEv → Int} {bs n : Nat} {G : Nat → HEv} : Pre key bs n G 0 := fun _ _ h => h
theorem Pre.next {key : HEv → Int} {bs n a : Nat} {G G1 : Nat → HEv} (h : Pre key bs n G a) (hS : SameF key a (a + bs) G G1) (hT : SortF key a (a + bs) G1) (hn : a + bs ≤ n) : Pre key bs n G1 (a + bs) := fun G' hg hb => by
  refine h G' (fun j hj => by rw [hg j (by omega), hS.1 j (.inl hj)]) (.step ?_ hb)
  rw [Nat.min_eq_left hn]
  exact hT.congr fun j _ hj => hg j hj
theorem Pre.last {key : HEv → Int} {bs n a : Nat} {G G1 : Nat → HEv} (h : Pre key bs n G a) (hS : SameF key a n G G1) (hT : SortF key a n G1) (hn : n ≤ a + bs) : Bl key bs n G1 0 := by
  refine h G1 (fun j hj => hS.1 j (.inl hj)) (.step ?_ (.done hn))
  rw [Nat.min_eq_right hn]
  exact hT
theorem Bl.all {key : HEv → Int} {bs n : Nat} {G : Nat → HEv} (h : Bl key bs n G 0) (hn : n ≤ bs) : SortF key 0 n G := by
  cases h with
  | done h => intro i j hi hij hj; omega
  | step h1 h2 => rwa [Nat.zero_add, Nat.min_eq_right hn] at h1
theorem Bl.cut {key : HEv → Int} {bs n a : Nat} {G : Nat → HEv} (h : Bl key bs n G a) (ha : a < n) : SortF key a (min (a + bs) n) G ∧ Bl key bs n G (a + bs) := by
  cases h with
  | done h => omega
  | step h1 h2 => exact ⟨h1, h2⟩

def StL0 (w : World) (b N u n cap c : Nat) (key : HEv → Int) (g : Nat → HEv) (mm : Nat) (a : Act) (w' : World) : Prop :=
  ∃ (x : Nat) (G : Nat → HEv) (row : Nat → List SV), mm = n - x ∧ x ≤ n ∧ SameF key 0 n g G ∧ Pre key 20 n G x ∧ (∀ t, t < n → row t = evRow (G t)) ∧ RepX ⟨w, w.heap.size, [b]⟩ ⟨[(7, 0, .v (.int .i64 x)), (8, 0, .v (.int .i64 ((x : Int) + 20))), (6, 0, .v (.int .i64 20)), (0, 0, .sl 0 b 0 0 n cap 5), (1, 0, .v (.int .i64 n)), (2, 0, .fn (.func 17) [] [])], [(b, true, .arr 0 N row 5 u (0, 0))], 0, 0, 63, [], [], []⟩ a w'
def StL2 (w : World) (b N u n cap c : Nat) (key : HEv → Int) (g : Nat → HEv) (mm : Nat) (a : Act) (w' : World) : Prop :=
  ∃ (bs : Nat) (G : Nat → HEv) (row : Nat → List SV), mm = n - bs ∧ 0 < bs ∧ bs ≤ 2000 ∧ SameF key 0 n g G ∧ Bl key bs n G 0 ∧ (∀ t, t < n → row t = evRow (G t)) ∧ RepX ⟨w, w.heap.size, [b]⟩ ⟨[(6, 0, .v (.int .i64 bs)), (0, 0, .sl 0 b 0 0 n cap 5), (1, 0, .v (.int .i64 n)), (2, 0, .fn (.func 17) [] [])], [(b, true, .arr 0 N row 5 u (0, 0))], 0, 0, 63, [], [], []⟩ a w'
def StL4 (w : World) (b N u n cap c bs b2 : Nat) (key : HEv → Int) (g : Nat → HEv) (mm : Nat) (a : Act) (w' : World) : Prop :=
  ∃ (x : Nat) (G : Nat → HEv) (row : Nat → List SV), mm = n - x ∧ x ≤ n ∧ SameF key 0 n g G ∧ Pre key b2 n G x ∧ Bl key bs n G x ∧ (∀ t, t < n → row t = evRow (G t)) ∧ RepX ⟨w, w.heap.size, [b]⟩ ⟨[(7, 0, .v (.int .i64 x)), (8, 0, .v (.int .i64 ((x : Int) + b2))), (6, 0, .v (.int .i64 bs)), (0, 0, .sl 0 b 0 0 n cap 5), (1, 0, .v (.int .i64 n)), (2, 0, .fn (.func 17) [] [])], [(b, true, .arr 0 N row 5 u (0, 0))], 0, 0, 63, [], [], []⟩ a w'

set_option maxRecDepth 100000 in
set_option maxHeartbeats 64000000 in
/-- stableCmpFunc. -/
theorem stable_ok (w0 w : World) (b N u n cap c : Nat) (key : HEv → Int) (V : HEv → Prop) (g : Nat → HEv) (hc : CmpAt w0 b c key V) (hw : KeepsTo w0 [b] w) (hD : DatF w b N u n g) (hn : n ≤ 1000) (hV : ∀ j, j < n → V (g j)) : Calls Try.prog 22 (denL [.sl 0 b 0 0 n cap 5, .v (.int .i64 n), .fn (.func 17) [] []]).toArray w (SrtR w b N u n fun g' => SameF key 0 n g g' ∧ SortF key 0 n g') := by
  obtain ⟨hN, row0, hrep0, hrow0⟩ := hD
  refine enter (F := ⟨w, w.heap.size, [b]⟩) Try.func22 rfl [.sl 0 b 0 0 n cap 5, .v (.int .i64 n), .fn (.func 17) [] []] [(b, true, .arr 0 N row0 5 u (0, 0))] (by simp [Try.f22, denL, den]) ⟨⟨hrep0, fun _ => .inr (by simp), by simp⟩, trivial⟩ (KeepsTo.refl w _) fun a hr => ?_
  have hVs : ∀ G, SameF key 0 n g G → ∀ j, j < n → V (G j) := fun G hS j hj => by
    obtain ⟨q, q1, q2, q3⟩ := hS.mem (Nat.zero_le j) hj
    rw [← q3]; exact hV q q2
  refine seg cfg22_ok mixed PanicFree.body 1000 [] [] hr (by first | trivial | exact HpRep.nil | assumption) (by kernel_rfl) fun s_ hs_ => ?_
  simp (maxSteps := 10000000) [SX.vc, SX.stop, SX.contS, SX.contB, SX.contW, SX.contR, SX.contD, SX.sxStep, SX.stepPure, SX.stepNew, SX.stepStore, SX.stepKeep, SX.guardIx, SX.evOp, SX.opd, SX.opds, SX.optOpd, SX.look, SX.putS, SX.gobs, SX.AllP, SX.leave, SX.lookC, SX.lookB, SX.lookT, SX.lookN, SX.findK, SX.evBuiltin, SX.ints, SX.foldI, SX.evBin, SX.evInt, SX.evStr, SX.evEq, SX.arith, SX.evLoad, SX.shapeUp, SX.evFieldAddr, SX.evField, SX.evIndexAddr, SX.evIndex, SX.evFill, SX.evBuild, SX.szs, SX.cellsV, SX.evNew, SX.evStore, SX.spliceL, SX.SV.cells, SX.evConv, SX.evSlice, SX.bnd, SX.evNil, SX.evUn, SX.evPick, SX.pickOpd, SX.popTo, SX.cnd, SX.env0, SX.TD.isAgg, SX.TD.isIface, SX.tails, SX.NotAgg, SX.evLookup, SX.evConvH, SX.evPtrEq, SX.isCells, SX.thaw, SX.frz, SX.fixB, SX.rootIx, SX.Froz, SX.frzStep, SX.fork, Go.Value.cells, Go.undef, cfg22, Try.f22]
  refine ⟨by (unfold SX.Ob; first | trivial | omega | ((try simp only [SX.inK]); (try simp [SX.den, SX.IsU8, SX.AllP, *]); (try omega))), ?_⟩
  intro a1 w1 hr1 _
  refine post_loop (StL0 w b N u n cap c key g) n ⟨0, g, row0, rfl, by omega, SameF.refl key 0 n g, Pre.zero, hrow0, hr1.re (by simp [envTo, SX.look]) hr1.all rfl rfl⟩ ?_
  rintro mm a2 w2 ⟨x, G, row, rfl, hx, hS, hP, hrow, hr2⟩
  by_cases hlt : x + 20 ≤ n
  · have hlt' : (x : Int) + 20 ≤ (n : Int) := by omega
    obtain ⟨y, hy⟩ : ∃ y, y = x + 20 := ⟨_, rfl⟩
    have hy' : (x : Int) + 20 = (y : Int) := by omega
    rw [hy'] at hlt' hr2
    refine seg cfg22_ok mixed PanicFree.body 1000 [true] [] hr2 (by first | trivial | exact HpRep.nil | assumption) (by kernel_rfl) fun s_ hs_ => ?_
    simp (maxSteps := 10000000) [SX.vc, SX.stop, SX.contS, SX.contB, SX.contW, SX.contR, SX.contD, SX.sxStep, SX.stepPure, SX.stepNew, SX.stepStore, SX.stepKeep, SX.guardIx, SX.evOp, SX.opd, SX.opds, SX.optOpd, SX.look, SX.putS, SX.gobs, SX.AllP, SX.leave, SX.lookC, SX.lookB, SX.lookT, SX.lookN, SX.findK, SX.evBuiltin, SX.ints, SX.foldI, SX.evBin, SX.evInt, SX.evStr, SX.evEq, SX.arith, SX.evLoad, SX.shapeUp, SX.evFieldAddr, SX.evField, SX.evIndexAddr, SX.evIndex, SX.evFill, SX.evBuild, SX.szs, SX.cellsV, SX.evNew, SX.evStore, SX.spliceL, SX.SV.cells, SX.evConv, SX.evSlice, SX.bnd, SX.evNil, SX.evUn, SX.evPick, SX.pickOpd, SX.popTo, SX.cnd, SX.env0, SX.TD.isAgg, SX.TD.isIface, SX.tails, SX.NotAgg, SX.evLookup, SX.evConvH, SX.evPtrEq, SX.isCells, SX.thaw, SX.frz, SX.fixB, SX.rootIx, SX.Froz, SX.frzStep, SX.fork, Go.Value.cells, Go.undef, cfg22, hlt']
    refine ⟨by (unfold SX.Ob; first | trivial | omega | ((try simp only [SX.inK]); (try simp [SX.den, SX.IsU8, SX.AllP, *]); (try omega))), ?_⟩
    intro a3 w3 hr3 _
    have hD3 : DatF w3 b N u n G := ⟨hN, row, hr3.all.1.1, hrow⟩
    refine post_call 28 [.sl 0 b 0 0 n cap 5, .v (.int .i64 x), .v (.int .i64 y), .fn (.func 17) [] []] hr3 (wanted_none rfl) rfl (callable 28 Try.func28) (ins_ok w0 w3 b N u n cap c x y key V G hc (KeepsTo.more hw hr3.keeps) hD3 hn (by omega) (by omega) (hVs G hS)) ?_
    rintro e4 w4 ⟨rfl, ⟨g4, ⟨hN4, row4, hrep4, hrow4⟩, hg4⟩, hk4⟩
    refine ⟨_, rfl, ?_⟩
    have h4 := hr3.retK hk4 (fun x hx => .inr hx) 18 (.tu []) rfl [(b, true, .arr 0 N row4 5 u (0, 0))] ⟨⟨hrep4, fun _ => .inr (by simp), by simp⟩, trivial⟩ (by simp) rfl
    clear hy'
    refine seg cfg22_ok mixed PanicFree.body 1000 [] [] h4 (by first | trivial | exact HpRep.nil | assumption) (by kernel_rfl) fun s_ hs_ => ?_
    simp (maxSteps := 10000000) [SX.vc, SX.stop, SX.contS, SX.contB, SX.contW, SX.contR, SX.contD, SX.sxStep, SX.stepPure, SX.stepNew, SX.stepStore, SX.stepKeep, SX.guardIx, SX.evOp, SX.opd, SX.opds, SX.optOpd, SX.look, SX.putS, SX.gobs, SX.AllP, SX.leave, SX.lookC, SX.lookB, SX.lookT, SX.lookN, SX.findK, SX.evBuiltin, SX.ints, SX.foldI, SX.evBin, SX.evInt, SX.evStr, SX.evEq, SX.arith, SX.evLoad, SX.shapeUp, SX.evFieldAddr, SX.evField, SX.evIndexAddr, SX.evIndex, SX.evFill, SX.evBuild, SX.szs, SX.cellsV, SX.evNew, SX.evStore, SX.spliceL, SX.SV.cells, SX.evConv, SX.evSlice, SX.bnd, SX.evNil, SX.evUn, SX.evPick, SX.pickOpd, SX.popTo, SX.cnd, SX.env0, SX.TD.isAgg, SX.TD.isIface, SX.tails, SX.NotAgg, SX.evLookup, SX.evConvH, SX.evPtrEq, SX.isCells, SX.thaw, SX.frz, SX.fixB, SX.rootIx, SX.Froz, SX.frzStep, SX.fork, Go.Value.cells, Go.undef, cfg22]
    refine ⟨by (unfold SX.Ob; first | trivial | omega | ((try simp only [SX.inK]); (try simp [SX.den, SX.IsU8, SX.AllP, *]); (try omega))), ?_⟩
    intro a5 w5 hr5 _
    rw [hy] at hg4
    exact post_rnd (n - y) (by omega) ⟨y, g4, row4, rfl, by omega, hS.trans (hg4.1.wide (Nat.zero_le _) (by omega) (by omega)), by rw [hy]; exact hP.next hg4.1 hg4.2 hlt, hrow4, hr5.re (by simp [envTo, SX.look, den]) hr5.all rfl rfl⟩
  have hlt' : ¬ (x : Int) + 20 ≤ (n : Int) := by omega
  refine seg cfg22_ok mixed PanicFree.body 1000 [false] [] hr2 (by first | trivial | exact HpRep.nil | assumption) (by kernel_rfl) fun s_ hs_ => ?_
  simp (maxSteps := 10000000) [SX.vc, SX.stop, SX.contS, SX.contB, SX.contW, SX.contR, SX.contD, SX.sxStep, SX.stepPure, SX.stepNew, SX.stepStore, SX.stepKeep, SX.guardIx, SX.evOp, SX.opd, SX.opds, SX.optOpd, SX.look, SX.putS, SX.gobs, SX.AllP, SX.leave, SX.lookC, SX.lookB, SX.lookT, SX.lookN, SX.findK, SX.evBuiltin, SX.ints, SX.foldI, SX.evBin, SX.evInt, SX.evStr, SX.evEq, SX.arith, SX.evLoad, SX.shapeUp, SX.evFieldAddr, SX.evField, SX.evIndexAddr, SX.evIndex, SX.evFill, SX.evBuild, SX.szs, SX.cellsV, SX.evNew, SX.evStore, SX.spliceL, SX.SV.cells, SX.evConv, SX.evSlice, SX.bnd, SX.evNil, SX.evUn, SX.evPick, SX.pickOpd, SX.popTo, SX.cnd, SX.env0, SX.TD.isAgg, SX.TD.isIface, SX.tails, SX.NotAgg, SX.evLookup, SX.evConvH, SX.evPtrEq, SX.isCells, SX.thaw, SX.frz, SX.fixB, SX.rootIx, SX.Froz, SX.frzStep, SX.fork, Go.Value.cells, Go.undef, cfg22, hlt']
  refine ⟨by (unfold SX.Ob; first | trivial | omega | ((try simp only [SX.inK]); (try simp [SX.den, SX.IsU8, SX.AllP, *]); (try omega))), ?_⟩
  intro a3 w3 hr3 _
  have hD3 : DatF w3 b N u n G := ⟨hN, row, hr3.all.1.1, hrow⟩
  refine post_call 28 [.sl 0 b 0 0 n cap 5, .v (.int .i64 x), .v (.int .i64 n), .fn (.func 17) [] []] hr3 (wanted_none rfl) rfl (callable 28 Try.func28) (ins_ok w0 w3 b N u n cap c x n key V G hc (KeepsTo.more hw hr3.keeps) hD3 hn hx (Nat.le_refl _) (hVs G hS)) ?_
  rintro e4 w4 ⟨rfl, ⟨g4, ⟨hN4, row4, hrep4, hrow4⟩, hg4⟩, hk4⟩
  refine ⟨_, rfl, ?_⟩
  have h4 := hr3.retK hk4 (fun x hx => .inr hx) 27 (.tu []) rfl [(b, true, .arr 0 N row4 5 u (0, 0))] ⟨⟨hrep4, fun _ => .inr (by simp), by simp⟩, trivial⟩ (by simp) rfl
  refine seg cfg22_ok mixed PanicFree.body 1000 [] [] h4 (by first | trivial | exact HpRep.nil | assumption) (by kernel_rfl) fun s_ hs_ => ?_
  simp (maxSteps := 10000000) [SX.vc, SX.stop, SX.contS, SX.contB, SX.contW, SX.contR, SX.contD, SX.sxStep, SX.stepPure, SX.stepNew, SX.stepStore, SX.stepKeep, SX.guardIx, SX.evOp, SX.opd, SX.opds, SX.optOpd, SX.look, SX.putS, SX.gobs, SX.AllP, SX.leave, SX.lookC, SX.lookB, SX.lookT, SX.lookN, SX.findK, SX.evBuiltin, SX.ints, SX.foldI, SX.evBin, SX.evInt, SX.evStr, SX.evEq, SX.arith, SX.evLoad, SX.shapeUp, SX.evFieldAddr, SX.evField, SX.evIndexAddr, SX.evIndex, SX.evFill, SX.evBuild, SX.szs, SX.cellsV, SX.evNew, SX.evStore, SX.spliceL, SX.SV.cells, SX.evConv, SX.evSlice, SX.bnd, SX.evNil, SX.evUn, SX.evPick, SX.pickOpd, SX.popTo, SX.cnd, SX.env0, SX.TD.isAgg, SX.TD.isIface, SX.tails, SX.NotAgg, SX.evLookup, SX.evConvH, SX.evPtrEq, SX.isCells, SX.thaw, SX.frz, SX.fixB, SX.rootIx, SX.Froz, SX.frzStep, SX.fork, Go.Value.cells, Go.undef, cfg22]
  refine ⟨by (unfold SX.Ob; first | trivial | omega | ((try simp only [SX.inK]); (try simp [SX.den, SX.IsU8, SX.AllP, *]); (try omega))), ?_⟩
  intro a5 w5 hr5 _
  refine post_loop (StL2 w b N u n cap c key g) (n - 20) ⟨20, g4, row4, rfl, by omega, by omega, hS.trans (hg4.1.wide (Nat.zero_le _) hx (Nat.le_refl _)), hP.last hg4.1 hg4.2 (by omega), hrow4, hr5.re (by simp [envTo, SX.look, den]) hr5.all rfl rfl⟩ ?_
  clear hr hr1 hr2 hr3 h4 hr5
  rintro mm aq wq ⟨bs, G2, row2, rfl, hb0, hb1, hS2, hB2, hrow2, hr2⟩
  by_cases hbn : bs < n
  rotate_left
  · have hbn' : ¬ (bs : Int) < (n : Int) := by omega
    refine seg cfg22_ok mixed PanicFree.body 1000 [false] [] hr2 (by first | trivial | exact HpRep.nil | assumption) (by kernel_rfl) fun s_ hs_ => ?_
    simp (maxSteps := 10000000) [SX.vc, SX.stop, SX.contS, SX.contB, SX.contW, SX.contR, SX.contD, SX.sxStep, SX.stepPure, SX.stepNew, SX.stepStore, SX.stepKeep, SX.guardIx, SX.evOp, SX.opd, SX.opds, SX.optOpd, SX.look, SX.putS, SX.gobs, SX.AllP, SX.leave, SX.lookC, SX.lookB, SX.lookT, SX.lookN, SX.findK, SX.evBuiltin, SX.ints, SX.foldI, SX.evBin, SX.evInt, SX.evStr, SX.evEq, SX.arith, SX.evLoad, SX.shapeUp, SX.evFieldAddr, SX.evField, SX.evIndexAddr, SX.evIndex, SX.evFill, SX.evBuild, SX.szs, SX.cellsV, SX.evNew, SX.evStore, SX.spliceL, SX.SV.cells, SX.evConv, SX.evSlice, SX.bnd, SX.evNil, SX.evUn, SX.evPick, SX.pickOpd, SX.popTo, SX.cnd, SX.env0, SX.TD.isAgg, SX.TD.isIface, SX.tails, SX.NotAgg, SX.evLookup, SX.evConvH, SX.evPtrEq, SX.isCells, SX.thaw, SX.frz, SX.fixB, SX.rootIx, SX.Froz, SX.frzStep, SX.fork, Go.Value.cells, Go.undef, cfg22, hbn']
    refine ⟨by (unfold SX.Ob; first | trivial | omega | ((try simp only [SX.inK]); (try simp [SX.den, SX.IsU8, SX.AllP, *]); (try omega))), ?_⟩
    intro a3 w3 hr3 _
    exact post_nil (end0 hr3 rfl ⟨rfl, ⟨G2, ⟨hN, row2, hr3.all.1.1, hrow2⟩, hS2, hB2.all (by omega)⟩, hr3.keeps⟩).2
  have hbn' : (bs : Int) < (n : Int) := by omega
  obtain ⟨b2, hb2⟩ : ∃ b2, b2 = bs + bs := ⟨_, rfl⟩
  have hb2' : 2 * (bs : Int) = (b2 : Int) := by omega
  have hb2'' : (bs : Int) * 2 = (b2 : Int) := by omega
  refine seg cfg22_ok mixed PanicFree.body 1000 [true] [] hr2 (by first | trivial | exact HpRep.nil | assumption) (by kernel_rfl) fun s_ hs_ => ?_
  simp (maxSteps := 10000000) [SX.vc, SX.stop, SX.contS, SX.contB, SX.contW, SX.contR, SX.contD, SX.sxStep, SX.stepPure, SX.stepNew, SX.stepStore, SX.stepKeep, SX.guardIx, SX.evOp, SX.opd, SX.opds, SX.optOpd, SX.look, SX.putS, SX.gobs, SX.AllP, SX.leave, SX.lookC, SX.lookB, SX.lookT, SX.lookN, SX.findK, SX.evBuiltin, SX.ints, SX.foldI, SX.evBin, SX.evInt, SX.evStr, SX.evEq, SX.arith, SX.evLoad, SX.shapeUp, SX.evFieldAddr, SX.evField, SX.evIndexAddr, SX.evIndex, SX.evFill, SX.evBuild, SX.szs, SX.cellsV, SX.evNew, SX.evStore, SX.spliceL, SX.SV.cells, SX.evConv, SX.evSlice, SX.bnd, SX.evNil, SX.evUn, SX.evPick, SX.pickOpd, SX.popTo, SX.cnd, SX.env0, SX.TD.isAgg, SX.TD.isIface, SX.tails, SX.NotAgg, SX.evLookup, SX.evConvH, SX.evPtrEq, SX.isCells, SX.thaw, SX.frz, SX.fixB, SX.rootIx, SX.Froz, SX.frzStep, SX.fork, Go.Value.cells, Go.undef, cfg22, hbn', hb2']
  refine ⟨by (unfold SX.Ob; first | trivial | omega | ((try simp only [SX.inK]); (try simp [SX.den, SX.IsU8, SX.AllP, *]); (try omega))), ?_⟩
  intro a3 w3 hr3 _
  refine post_loop (StL4 w b N u n cap c bs b2 key g) n ⟨0, G2, row2, rfl, by omega, hS2, Pre.zero, hB2, hrow2, hr3.re (by simp [envTo, SX.look]) hr3.all rfl rfl⟩ ?_
  clear hr2 hr3
  rintro mm aq2 w2' ⟨x1, G, row, rfl, hx1, hS, hP, hB, hrow, hr2⟩
  by_cases hlt1 : x1 + b2 ≤ n
  · obtain ⟨y, hy⟩ : ∃ y, y = x1 + b2 := ⟨_, rfl⟩
    obtain ⟨z, hz⟩ : ∃ z, z = x1 + bs := ⟨_, rfl⟩
    have hy' : (x1 : Int) + (b2 : Int) = (y : Int) := by omega
    have hz' : (x1 : Int) + (bs : Int) = (z : Int) := by omega
    have hlt1' : (y : Int) ≤ (n : Int) := by omega
    obtain ⟨q1, q2⟩ := hB.cut (by omega)
    obtain ⟨q3, q4⟩ := q2.cut (by omega)
    rw [Nat.min_eq_left (by omega), ← hz] at q1
    rw [Nat.min_eq_left (by omega), show x1 + bs + bs = y by omega, ← hz] at q3
    rw [show x1 + bs + bs = y by omega] at q4
    rw [hy'] at hr2
    clear hy hz hb2
    refine seg cfg22_ok mixed PanicFree.body 1000 [true] [] hr2 (by first | trivial | exact HpRep.nil | assumption) (by kernel_rfl) fun s_ hs_ => ?_
    simp (maxSteps := 10000000) [SX.vc, SX.stop, SX.contS, SX.contB, SX.contW, SX.contR, SX.contD, SX.sxStep, SX.stepPure, SX.stepNew, SX.stepStore, SX.stepKeep, SX.guardIx, SX.evOp, SX.opd, SX.opds, SX.optOpd, SX.look, SX.putS, SX.gobs, SX.AllP, SX.leave, SX.lookC, SX.lookB, SX.lookT, SX.lookN, SX.findK, SX.evBuiltin, SX.ints, SX.foldI, SX.evBin, SX.evInt, SX.evStr, SX.evEq, SX.arith, SX.evLoad, SX.shapeUp, SX.evFieldAddr, SX.evField, SX.evIndexAddr, SX.evIndex, SX.evFill, SX.evBuild, SX.szs, SX.cellsV, SX.evNew, SX.evStore, SX.spliceL, SX.SV.cells, SX.evConv, SX.evSlice, SX.bnd, SX.evNil, SX.evUn, SX.evPick, SX.pickOpd, SX.popTo, SX.cnd, SX.env0, SX.TD.isAgg, SX.TD.isIface, SX.tails, SX.NotAgg, SX.evLookup, SX.evConvH, SX.evPtrEq, SX.isCells, SX.thaw, SX.frz, SX.fixB, SX.rootIx, SX.Froz, SX.frzStep, SX.fork, Go.Value.cells, Go.undef, cfg22, hlt1', hz']
    refine ⟨by (unfold SX.Ob; first | trivial | omega | ((try simp only [SX.inK]); (try simp [SX.den, SX.IsU8, SX.AllP, *]); (try omega))), ?_⟩
    intro a3 w3 hr3 _
    have hD3 : DatF w3 b N u n G := ⟨hN, row, hr3.all.1.1, hrow⟩
    refine post_call 29 [.sl 0 b 0 0 n cap 5, .v (.int .i64 x1), .v (.int .i64 z), .v (.int .i64 y), .fn (.func 17) [] []] hr3 (wanted_none rfl) rfl (callable 29 Try.func29) (sym_ok (y - x1) w0 w3 b N u n cap c x1 z y key V G hc (KeepsTo.more hw hr3.keeps) hD3 hn (by omega) (by omega) (by omega) (hVs G hS) q1 q3 (Nat.le_refl _)) ?_
    rintro e4 w4 ⟨rfl, ⟨g4, ⟨hN4, row4, hrep4, hrow4⟩, hg4⟩, hk4⟩
    refine ⟨_, rfl, ?_⟩
    have h4 := hr3.retK hk4 (fun x hx => .inr hx) 43 (.tu []) rfl [(b, true, .arr 0 N row4 5 u (0, 0))] ⟨⟨hrep4, fun _ => .inr (by simp), by simp⟩, trivial⟩ (by simp) rfl
    refine seg cfg22_ok mixed PanicFree.body 1000 [] [] h4 (by first | trivial | exact HpRep.nil | assumption) (by kernel_rfl) fun s_ hs_ => ?_
    simp (maxSteps := 10000000) [SX.vc, SX.stop, SX.contS, SX.contB, SX.contW, SX.contR, SX.contD, SX.sxStep, SX.stepPure, SX.stepNew, SX.stepStore, SX.stepKeep, SX.guardIx, SX.evOp, SX.opd, SX.opds, SX.optOpd, SX.look, SX.putS, SX.gobs, SX.AllP, SX.leave, SX.lookC, SX.lookB, SX.lookT, SX.lookN, SX.findK, SX.evBuiltin, SX.ints, SX.foldI, SX.evBin, SX.evInt, SX.evStr, SX.evEq, SX.arith, SX.evLoad, SX.shapeUp, SX.evFieldAddr, SX.evField, SX.evIndexAddr, SX.evIndex, SX.evFill, SX.evBuild, SX.szs, SX.cellsV, SX.evNew, SX.evStore, SX.spliceL, SX.SV.cells, SX.evConv, SX.evSlice, SX.bnd, SX.evNil, SX.evUn, SX.evPick, SX.pickOpd, SX.popTo, SX.cnd, SX.env0, SX.TD.isAgg, SX.TD.isIface, SX.tails, SX.NotAgg, SX.evLookup, SX.evConvH, SX.evPtrEq, SX.isCells, SX.thaw, SX.frz, SX.fixB, SX.rootIx, SX.Froz, SX.frzStep, SX.fork, Go.Value.cells, Go.undef, cfg22, hb2']
    refine ⟨by (unfold SX.Ob; first | trivial | omega | ((try simp only [SX.inK]); (try simp [SX.den, SX.IsU8, SX.AllP, *]); (try omega))), ?_⟩
    intro a5 w5 hr5 _
    have hy : y = x1 + b2 := by omega
    have hg4' := hg4
    rw [hy] at hg4'
    exact post_rnd (n - y) (by omega) ⟨y, g4, row4, rfl, by omega, hS.trans (hg4.1.wide (Nat.zero_le _) (by omega) (by omega)), by rw [hy]; exact hP.next hg4'.1 hg4'.2 hlt1, q4.congr fun j hj => hg4.1.1 j (.inr hj), hrow4, hr5.re (by simp [envTo, SX.look, den]) hr5.all rfl rfl⟩
  have hlt1' : ¬ (x1 : Int) + (b2 : Int) ≤ (n : Int) := by omega
  by_cases hm : x1 + bs < n
  · obtain ⟨z, hz⟩ : ∃ z, z = x1 + bs := ⟨_, rfl⟩
    have hz' : (x1 : Int) + (bs : Int) = (z : Int) := by omega
    have hm' : (z : Int) < (n : Int) := by omega
    obtain ⟨q1, q2⟩ := hB.cut (by omega)
    obtain ⟨q3, q4⟩ := q2.cut (by omega)
    rw [Nat.min_eq_left (by omega), ← hz] at q1
    rw [Nat.min_eq_right (by omega), ← hz] at q3
    clear hz hb2
    refine seg cfg22_ok mixed PanicFree.body 1000 [false, true] [] hr2 (by first | trivial | exact HpRep.nil | assumption) (by kernel_rfl) fun s_ hs_ => ?_
    simp (maxSteps := 10000000) [SX.vc, SX.stop, SX.contS, SX.contB, SX.contW, SX.contR, SX.contD, SX.sxStep, SX.stepPure, SX.stepNew, SX.stepStore, SX.stepKeep, SX.guardIx, SX.evOp, SX.opd, SX.opds, SX.optOpd, SX.look, SX.putS, SX.gobs, SX.AllP, SX.leave, SX.lookC, SX.lookB, SX.lookT, SX.lookN, SX.findK, SX.evBuiltin, SX.ints, SX.foldI, SX.evBin, SX.evInt, SX.evStr, SX.evEq, SX.arith, SX.evLoad, SX.shapeUp, SX.evFieldAddr, SX.evField, SX.evIndexAddr, SX.evIndex, SX.evFill, SX.evBuild, SX.szs, SX.cellsV, SX.evNew, SX.evStore, SX.spliceL, SX.SV.cells, SX.evConv, SX.evSlice, SX.bnd, SX.evNil, SX.evUn, SX.evPick, SX.pickOpd, SX.popTo, SX.cnd, SX.env0, SX.TD.isAgg, SX.TD.isIface, SX.tails, SX.NotAgg, SX.evLookup, SX.evConvH, SX.evPtrEq, SX.isCells, SX.thaw, SX.frz, SX.fixB, SX.rootIx, SX.Froz, SX.frzStep, SX.fork, Go.Value.cells, Go.undef, cfg22, hlt1', hz', hm']
    refine ⟨by (unfold SX.Ob; first | trivial | omega | ((try simp only [SX.inK]); (try simp [SX.den, SX.IsU8, SX.AllP, *]); (try omega))), ?_⟩
    intro a3 w3 hr3 _
    have hD3 : DatF w3 b N u n G := ⟨hN, row, hr3.all.1.1, hrow⟩
    refine post_call 29 [.sl 0 b 0 0 n cap 5, .v (.int .i64 x1), .v (.int .i64 z), .v (.int .i64 n), .fn (.func 17) [] []] hr3 (wanted_none rfl) rfl (callable 29 Try.func29) (sym_ok (n - x1) w0 w3 b N u n cap c x1 z n key V G hc (KeepsTo.more hw hr3.keeps) hD3 hn (by omega) (by omega) (Nat.le_refl _) (hVs G hS) q1 q3 (Nat.le_refl _)) ?_
    rintro e4 w4 ⟨rfl, ⟨g4, ⟨hN4, row4, hrep4, hrow4⟩, hg4⟩, hk4⟩
    refine ⟨_, rfl, ?_⟩
    have h4 := hr3.retK hk4 (fun x hx => .inr hx) 60 (.tu []) rfl [(b, true, .arr 0 N row4 5 u (0, 0))] ⟨⟨hrep4, fun _ => .inr (by simp), by simp⟩, trivial⟩ (by simp) rfl
    clear hz'
    refine seg cfg22_ok mixed PanicFree.body 1000 [] [] h4 (by first | trivial | exact HpRep.nil | assumption) (by kernel_rfl) fun s_ hs_ => ?_
    simp (maxSteps := 10000000) [SX.vc, SX.stop, SX.contS, SX.contB, SX.contW, SX.contR, SX.contD, SX.sxStep, SX.stepPure, SX.stepNew, SX.stepStore, SX.stepKeep, SX.guardIx, SX.evOp, SX.opd, SX.opds, SX.optOpd, SX.look, SX.putS, SX.gobs, SX.AllP, SX.leave, SX.lookC, SX.lookB, SX.lookT, SX.lookN, SX.findK, SX.evBuiltin, SX.ints, SX.foldI, SX.evBin, SX.evInt, SX.evStr, SX.evEq, SX.arith, SX.evLoad, SX.shapeUp, SX.evFieldAddr, SX.evField, SX.evIndexAddr, SX.evIndex, SX.evFill, SX.evBuild, SX.szs, SX.cellsV, SX.evNew, SX.evStore, SX.spliceL, SX.SV.cells, SX.evConv, SX.evSlice, SX.bnd, SX.evNil, SX.evUn, SX.evPick, SX.pickOpd, SX.popTo, SX.cnd, SX.env0, SX.TD.isAgg, SX.TD.isIface, SX.tails, SX.NotAgg, SX.evLookup, SX.evConvH, SX.evPtrEq, SX.isCells, SX.thaw, SX.frz, SX.fixB, SX.rootIx, SX.Froz, SX.frzStep, SX.fork, Go.Value.cells, Go.undef, cfg22, hb2'']
    refine ⟨by (unfold SX.Ob; first | trivial | omega | ((try simp only [SX.inK]); (try simp [SX.den, SX.IsU8, SX.AllP, *]); (try omega))), ?_⟩
    intro a5 w5 hr5 _
    exact post_rnd (n - b2) (by omega) ⟨b2, g4, row4, rfl, by omega, by omega, hS.trans (hg4.1.wide (Nat.zero_le _) (by omega) (Nat.le_refl _)), hP.last hg4.1 hg4.2 (by omega), hrow4, hr5.re (by simp [envTo, SX.look, den]) hr5.all rfl rfl⟩
  · have hm' : ¬ (x1 : Int) + (bs : Int) < (n : Int) := by omega
    have hTl : SortF key x1 n G := by
      by_cases hxn : x1 < n
      · have q := (hB.cut hxn).1
        rwa [Nat.min_eq_right (by omega)] at q
      · intro i j hi hij hj; omega
    refine seg cfg22_ok mixed PanicFree.body 1000 [false, false] [] hr2 (by first | trivial | exact HpRep.nil | assumption) (by kernel_rfl) fun s_ hs_ => ?_
    simp (maxSteps := 10000000) [SX.vc, SX.stop, SX.contS, SX.contB, SX.contW, SX.contR, SX.contD, SX.sxStep, SX.stepPure, SX.stepNew, SX.stepStore, SX.stepKeep, SX.guardIx, SX.evOp, SX.opd, SX.opds, SX.optOpd, SX.look, SX.putS, SX.gobs, SX.AllP, SX.leave, SX.lookC, SX.lookB, SX.lookT, SX.lookN, SX.findK, SX.evBuiltin, SX.ints, SX.foldI, SX.evBin, SX.evInt, SX.evStr, SX.evEq, SX.arith, SX.evLoad, SX.shapeUp, SX.evFieldAddr, SX.evField, SX.evIndexAddr, SX.evIndex, SX.evFill, SX.evBuild, SX.szs, SX.cellsV, SX.evNew, SX.evStore, SX.spliceL, SX.SV.cells, SX.evConv, SX.evSlice, SX.bnd, SX.evNil, SX.evUn, SX.evPick, SX.pickOpd, SX.popTo, SX.cnd, SX.env0, SX.TD.isAgg, SX.TD.isIface, SX.tails, SX.NotAgg, SX.evLookup, SX.evConvH, SX.evPtrEq, SX.isCells, SX.thaw, SX.frz, SX.fixB, SX.rootIx, SX.Froz, SX.frzStep, SX.fork, Go.Value.cells, Go.undef, cfg22, hlt1', hm', hb2'']
    refine ⟨by (unfold SX.Ob; first | trivial | omega | ((try simp only [SX.inK]); (try simp [SX.den, SX.IsU8, SX.AllP, *]); (try omega))), ?_⟩
    intro a3 w3 hr3 _
    exact post_rnd (n - b2) (by omega) ⟨b2, G, row, rfl, by omega, by omega, hS, hP.last (SameF.refl key x1 n G) hTl (by omega), hrow, hr3.re (by simp [envTo, SX.look, den]) hr3.all rfl rfl⟩

set_option maxRecDepth 100000 in
set_option maxHeartbeats 16000000 in
/-- SortStableFunc. -/
theorem sort_ok (w0 w : World) (b N u n cap c : Nat) (key : HEv → Int) (V : HEv → Prop) (g : Nat → HEv) (hc : CmpAt w0 b c key V) (hw : KeepsTo w0 [b] w) (hD : DatF w b N u n g) (hn : n ≤ 1000) (hV : ∀ j, j < n → V (g j)) : Calls Try.prog 16 (denL [.sl 0 b 0 0 n cap 5, .fn (.func 17) [] []]).toArray w (SrtR w b N u n fun g' => SameF key 0 n g g' ∧ SortF key 0 n g') := by
  obtain ⟨hN, row0, hrep0, hrow0⟩ := hD
  refine enter (F := ⟨w, w.heap.size, [b]⟩) Try.func16 rfl [.sl 0 b 0 0 n cap 5, .fn (.func 17) [] []] [(b, true, .arr 0 N row0 5 u (0, 0))] (by simp [Try.f16, denL, den]) ⟨⟨hrep0, fun _ => .inr (by simp), by simp⟩, trivial⟩ (KeepsTo.refl w _) fun a hr => ?_
  refine seg cfg16_ok mixed PanicFree.body 1000 [] [] hr (by first | trivial | exact HpRep.nil | assumption) (by kernel_rfl) fun s_ hs_ => ?_
  simp (maxSteps := 10000000) [SX.vc, SX.stop, SX.contS, SX.contB, SX.contW, SX.contR, SX.contD, SX.sxStep, SX.stepPure, SX.stepNew, SX.stepStore, SX.stepKeep, SX.guardIx, SX.evOp, SX.opd, SX.opds, SX.optOpd, SX.look, SX.putS, SX.gobs, SX.AllP, SX.leave, SX.lookC, SX.lookB, SX.lookT, SX.lookN, SX.findK, SX.evBuiltin, SX.ints, SX.foldI, SX.evBin, SX.evInt, SX.evStr, SX.evEq, SX.arith, SX.evLoad, SX.shapeUp, SX.evFieldAddr, SX.evField, SX.evIndexAddr, SX.evIndex, SX.evFill, SX.evBuild, SX.szs, SX.cellsV, SX.evNew, SX.evStore, SX.spliceL, SX.SV.cells, SX.evConv, SX.evSlice, SX.bnd, SX.evNil, SX.evUn, SX.evPick, SX.pickOpd, SX.popTo, SX.cnd, SX.env0, SX.TD.isAgg, SX.TD.isIface, SX.tails, SX.NotAgg, SX.evLookup, SX.evConvH, SX.evPtrEq, SX.isCells, SX.thaw, SX.frz, SX.fixB, SX.rootIx, SX.Froz, SX.frzStep, SX.fork, Go.Value.cells, Go.undef, cfg16, Try.f16]
  refine ⟨by (unfold SX.Ob; first | trivial | omega | ((try simp only [SX.inK]); (try simp [SX.den, SX.IsU8, SX.AllP, *]); (try omega))), ?_⟩
  intro a1 w1 hr1 _
  have hD1 : DatF w1 b N u n g := ⟨hN, row0, hr1.all.1.1, hrow0⟩
  refine post_call 22 [.sl 0 b 0 0 n cap 5, .v (.int .i64 n), .fn (.func 17) [] []] hr1 (wanted_none rfl) rfl (callable 22 Try.func22) (stable_ok w0 w1 b N u n cap c key V g hc (KeepsTo.more hw hr1.keeps) hD1 hn hV) ?_
  rintro e4 w4 ⟨rfl, ⟨g4, ⟨hN4, row4, hrep4, hrow4⟩, hg4⟩, hk4⟩
  refine ⟨_, rfl, ?_⟩
  have h4 := hr1.retK hk4 (fun x hx => .inr hx) 8 (.tu []) rfl [(b, true, .arr 0 N row4 5 u (0, 0))] ⟨⟨hrep4, fun _ => .inr (by simp), by simp⟩, trivial⟩ (by simp) rfl
  refine seg cfg16_ok mixed PanicFree.body 1000 [] [] h4 (by first | trivial | exact HpRep.nil | assumption) (by kernel_rfl) fun s_ hs_ => ?_
  simp (maxSteps := 10000000) [SX.vc, SX.stop, SX.contS, SX.contB, SX.contW, SX.contR, SX.contD, SX.sxStep, SX.stepPure, SX.stepNew, SX.stepStore, SX.stepKeep, SX.guardIx, SX.evOp, SX.opd, SX.opds, SX.optOpd, SX.look, SX.putS, SX.gobs, SX.AllP, SX.leave, SX.lookC, SX.lookB, SX.lookT, SX.lookN, SX.findK, SX.evBuiltin, SX.ints, SX.foldI, SX.evBin, SX.evInt, SX.evStr, SX.evEq, SX.arith, SX.evLoad, SX.shapeUp, SX.evFieldAddr, SX.evField, SX.evIndexAddr, SX.evIndex, SX.evFill, SX.evBuild, SX.szs, SX.cellsV, SX.evNew, SX.evStore, SX.spliceL, SX.SV.cells, SX.evConv, SX.evSlice, SX.bnd, SX.evNil, SX.evUn, SX.evPick, SX.pickOpd, SX.popTo, SX.cnd, SX.env0, SX.TD.isAgg, SX.TD.isIface, SX.tails, SX.NotAgg, SX.evLookup, SX.evConvH, SX.evPtrEq, SX.isCells, SX.thaw, SX.frz, SX.fixB, SX.rootIx, SX.Froz, SX.frzStep, SX.fork, Go.Value.cells, Go.undef, cfg16]
  refine ⟨by (unfold SX.Ob; first | trivial | omega | ((try simp only [SX.inK]); (try simp [SX.den, SX.IsU8, SX.AllP, *]); (try omega))), ?_⟩
  intro a5 w5 hr5 _
  exact post_nil (end0 hr5 rfl ⟨rfl, ⟨g4, ⟨hN, row4, hr5.all.1.1, hrow4⟩, hg4⟩, hr5.keeps⟩).2

end Go.Proofs
