/- Histories: symMerge. -/
import Derived.Test.YtajppkjbmiemhaaON
namespace Go.Proofs
set_option linter.unusedVariables false
set_option linter.unusedSimpArgs false
set_option linter.unusedSectionVars false
open Go Go.SX Go.RowKit Go.Hist

def SyA1 (w : World) (b N u n cap c a0 m0 b0 : Nat) (key : HEv → Int) (g : Nat → HEv) (row : Nat → List SV) (mm : Nat) (a : Act) (w' : World) : Prop :=
  ∃ lo hi : Nat, mm = hi - lo ∧ m0 ≤ lo ∧ lo ≤ hi ∧ hi ≤ b0 ∧ (lo = m0 ∨ key (g (lo - 1)) < key (g a0)) ∧ (hi = b0 ∨ key (g a0) ≤ key (g hi)) ∧ RepX ⟨w, w.heap.size, [b]⟩ ⟨[(10, 0, .v (.int .i64 lo)), (11, 0, .v (.int .i64 hi)), (0, 0, .sl 0 b 0 0 n cap 5), (1, 0, .v (.int .i64 a0)), (4, 0, .fn (.func 17) [] [])], [(b, true, .arr 0 N row 5 u (0, 0))], 0, 0, 220, [], [], []⟩ a w'
def SyA2 (w : World) (b N u n cap c a0 i : Nat) (g : Nat → HEv) (mm : Nat) (a : Act) (w' : World) : Prop :=
  ∃ (k : Nat) (row : Nat → List SV), mm = i - k ∧ a0 ≤ k ∧ k + 1 ≤ i ∧ (∀ t, t < n → row t = evRow (rot g a0 (a0 + 1) (k + 1) t)) ∧ RepX ⟨w, w.heap.size, [b]⟩ ⟨[(13, 0, .v (.int .i64 k)), (10, 0, .v (.int .i64 i)), (0, 0, .sl 0 b 0 0 n cap 5)], [(b, true, .arr 0 N row 5 u (0, 0))], 0, 0, 220, [], [], []⟩ a w'
def SyB1 (w : World) (b N u n cap c a0 m0 : Nat) (key : HEv → Int) (g : Nat → HEv) (row : Nat → List SV) (mm : Nat) (a : Act) (w' : World) : Prop :=
  ∃ lo hi : Nat, mm = hi - lo ∧ a0 ≤ lo ∧ lo ≤ hi ∧ hi ≤ m0 ∧ (lo = a0 ∨ key (g (lo - 1)) ≤ key (g m0)) ∧ (hi = m0 ∨ key (g m0) < key (g hi)) ∧ RepX ⟨w, w.heap.size, [b]⟩ ⟨[(14, 0, .v (.int .i64 lo)), (15, 0, .v (.int .i64 hi)), (0, 0, .sl 0 b 0 0 n cap 5), (2, 0, .v (.int .i64 m0)), (4, 0, .fn (.func 17) [] [])], [(b, true, .arr 0 N row 5 u (0, 0))], 0, 0, 220, [], [], []⟩ a w'
def SyB2 (w : World) (b N u n cap c m0 i : Nat) (g : Nat → HEv) (mm : Nat) (a : Act) (w' : World) : Prop :=
  ∃ (k : Nat) (row : Nat → List SV), mm = k - i ∧ i ≤ k ∧ k ≤ m0 ∧ (∀ t, t < n → row t = evRow (rot g k m0 (m0 + 1) t)) ∧ RepX ⟨w, w.heap.size, [b]⟩ ⟨[(17, 0, .v (.int .i64 k)), (14, 0, .v (.int .i64 i)), (0, 0, .sl 0 b 0 0 n cap 5)], [(b, true, .arr 0 N row 5 u (0, 0))], 0, 0, 220, [], [], []⟩ a w'

set_option maxRecDepth 100000 in
set_option maxHeartbeats 32000000 in
/-- symMerge of one thing with more. -/
theorem symA_ok (w0 w : World) (b N u n cap c a0 m0 b0 : Nat) (key : HEv → Int) (V : HEv → Prop) (g : Nat → HEv) (hc : CmpAt w0 b c key V) (hw : KeepsTo w0 [b] w) (hD : DatF w b N u n g) (hn : n ≤ 1000) (h1 : a0 < m0) (h2 : m0 < b0) (h3 : b0 ≤ n) (hV : ∀ j, j < n → V (g j)) (hA : SortF key a0 m0 g) (hB : SortF key m0 b0 g) (h4 : m0 = a0 + 1) : Calls Try.prog 29 (denL [.sl 0 b 0 0 n cap 5, .v (.int .i64 a0), .v (.int .i64 m0), .v (.int .i64 b0), .fn (.func 17) [] []]).toArray w (SrtR w b N u n fun g' => SameF key a0 b0 g g' ∧ SortF key a0 b0 g') := by
  obtain ⟨hN, row0, hrep0, hrow0⟩ := hD
  refine enter (F := ⟨w, w.heap.size, [b]⟩) Try.func29 rfl [.sl 0 b 0 0 n cap 5, .v (.int .i64 a0), .v (.int .i64 m0), .v (.int .i64 b0), .fn (.func 17) [] []] [(b, true, .arr 0 N row0 5 u (0, 0))] (by simp [Try.f29, denL, den]) ⟨⟨hrep0, fun _ => .inr (by simp), by simp⟩, trivial⟩ (KeepsTo.refl w _) fun a hr => ?_
  subst h4
  have hd1 : ((a0 : Int) + 1 - (a0 : Int) == 1) = true := by simp; omega
  have hd0 : ((a0 + 1 : Nat) : Int) - (a0 : Int) = 1 := by omega
  refine seg cfg29_ok mixed PanicFree.body 1000 [true] [] hr (by first | trivial | exact HpRep.nil | assumption) (by kernel_rfl) fun s_ hs_ => ?_
  simp (maxSteps := 10000000) [SX.vc, SX.stop, SX.contS, SX.contB, SX.contW, SX.contR, SX.contD, SX.sxStep, SX.stepPure, SX.stepNew, SX.stepStore, SX.stepKeep, SX.guardIx, SX.evOp, SX.opd, SX.opds, SX.optOpd, SX.look, SX.putS, SX.gobs, SX.AllP, SX.leave, SX.lookC, SX.lookB, SX.lookT, SX.lookN, SX.findK, SX.evBuiltin, SX.ints, SX.foldI, SX.evBin, SX.evInt, SX.evStr, SX.evEq, SX.arith, SX.evLoad, SX.shapeUp, SX.evFieldAddr, SX.evField, SX.evIndexAddr, SX.evIndex, SX.evFill, SX.evBuild, SX.szs, SX.cellsV, SX.evNew, SX.evStore, SX.spliceL, SX.SV.cells, SX.evConv, SX.evSlice, SX.bnd, SX.evNil, SX.evUn, SX.evPick, SX.pickOpd, SX.popTo, SX.cnd, SX.env0, SX.TD.isAgg, SX.TD.isIface, SX.tails, SX.NotAgg, SX.evLookup, SX.evConvH, SX.evPtrEq, SX.isCells, SX.thaw, SX.frz, SX.fixB, SX.rootIx, SX.Froz, SX.frzStep, SX.fork, Go.Value.cells, Go.undef, cfg29, Try.f29, hd0, hd1]
  refine ⟨by (unfold SX.Ob; first | trivial | omega | ((try simp only [SX.inK]); (try simp [SX.den, SX.IsU8, SX.AllP, *]); (try omega))), ?_⟩
  intro a1 w1 hr1 _
  refine post_loop (SyA1 w b N u n cap c a0 (a0 + 1) b0 key g row0) (b0 - (a0 + 1)) ⟨a0 + 1, b0, rfl, by omega, by omega, by omega, .inl rfl, .inl rfl, hr1.re (by simp [envTo, SX.look]) hr1.all rfl rfl⟩ ?_
  rintro mm a2 w2 ⟨lo, hi, rfl, hl1, hl2, hl3, hk1, hk2, hr2⟩
  by_cases hlt : lo < hi
  · have hlt' : (lo : Int) < (hi : Int) := by omega
    obtain ⟨h, hh⟩ : ∃ h, (lo + hi) / 2 = h := ⟨_, rfl⟩
    have hm := mid_ok lo hi (by omega)
    rw [hh] at hm
    have hb1 : lo ≤ h ∧ h < hi := by omega
    clear hh
    have hhn : h < n := by omega
    have han : a0 < n := by omega
    obtain ⟨x, hx⟩ : ∃ x, g h = x := ⟨_, rfl⟩
    obtain ⟨y, hy⟩ : ∃ y, g a0 = y := ⟨_, rfl⟩
    have hrx : row0 h = [.v (.int .i64 x.at_), .v (.int .i64 x.lba), .v (.bool x.rd), .v (.int .i64 x.ver), .v (.int .u8 x.by_)] := by rw [hrow0 h hhn, hx]; rfl
    have hry : row0 a0 = [.v (.int .i64 y.at_), .v (.int .i64 y.lba), .v (.bool y.rd), .v (.int .i64 y.ver), .v (.int .u8 y.by_)] := by rw [hrow0 a0 han, hy]; rfl
    refine seg cfg29_ok mixed PanicFree.body 1000 [true] [] hr2 (by first | trivial | exact HpRep.nil | assumption) (by kernel_rfl) fun s_ hs_ => ?_
    simp (maxSteps := 10000000) [SX.vc, SX.stop, SX.contS, SX.contB, SX.contW, SX.contR, SX.contD, SX.sxStep, SX.stepPure, SX.stepNew, SX.stepStore, SX.stepKeep, SX.guardIx, SX.evOp, SX.opd, SX.opds, SX.optOpd, SX.look, SX.putS, SX.gobs, SX.AllP, SX.leave, SX.lookC, SX.lookB, SX.lookT, SX.lookN, SX.findK, SX.evBuiltin, SX.ints, SX.foldI, SX.evBin, SX.evInt, SX.evStr, SX.evEq, SX.arith, SX.evLoad, SX.shapeUp, SX.evFieldAddr, SX.evField, SX.evIndexAddr, SX.evIndex, SX.evFill, SX.evBuild, SX.szs, SX.cellsV, SX.evNew, SX.evStore, SX.spliceL, SX.SV.cells, SX.evConv, SX.evSlice, SX.bnd, SX.evNil, SX.evUn, SX.evPick, SX.pickOpd, SX.popTo, SX.cnd, SX.env0, SX.TD.isAgg, SX.TD.isIface, SX.tails, SX.NotAgg, SX.evLookup, SX.evConvH, SX.evPtrEq, SX.isCells, SX.thaw, SX.frz, SX.fixB, SX.rootIx, SX.Froz, SX.frzStep, SX.fork, Go.Value.cells, Go.undef, cfg29, hlt', hm, hrx, hry, hhn, han]
    refine ⟨by (unfold SX.Ob; first | trivial | omega | ((try simp only [SX.inK]); (try simp [SX.den, SX.IsU8, SX.AllP, *]); (try omega))), ?_⟩
    intro a5 w5 hr5 ht5
    refine post_callD 17 [.ag [.v (.int .i64 x.at_), .v (.int .i64 x.lba), .v (.bool x.rd), .v (.int .i64 x.ver), .v (.int .u8 x.by_)], .ag [.v (.int .i64 y.at_), .v (.int .i64 y.lba), .v (.bool y.rd), .v (.int .i64 y.ver), .v (.int .u8 y.by_)]] hr5 rfl (by first | exact wanted_none rfl | exact wanted_zero (hr5.env.same rfl rfl rfl rfl) rfl (by simp)) rfl (callable 17 Try.func17) (hc w5 (KeepsTo.more hw hr5.keeps) x y (hx ▸ hV h hhn) (hy ▸ hV a0 han)) ?_
    rintro e6 w6 ⟨⟨r, rfl, hrr⟩, hb6⟩
    have ht6 := HpRep_below ht5 hb6
    refine ⟨_, rfl, ht6, ?_⟩
    have h6 := hr5.ret hb6 49 (.v (.int .i64 r)) rfl _ (hr5.all.below hb6) (by simp) rfl
    by_cases hr0 : r < 0
    · have hlt2 : key x < key y := hrr.1 hr0
      refine seg cfg29_ok mixed PanicFree.body 1000 [true] [] h6 (by first | trivial | exact HpRep.nil | assumption) (by kernel_rfl) fun s_ hs_ => ?_
      simp (maxSteps := 10000000) [SX.vc, SX.stop, SX.contS, SX.contB, SX.contW, SX.contR, SX.contD, SX.sxStep, SX.stepPure, SX.stepNew, SX.stepStore, SX.stepKeep, SX.guardIx, SX.evOp, SX.opd, SX.opds, SX.optOpd, SX.look, SX.putS, SX.gobs, SX.AllP, SX.leave, SX.lookC, SX.lookB, SX.lookT, SX.lookN, SX.findK, SX.evBuiltin, SX.ints, SX.foldI, SX.evBin, SX.evInt, SX.evStr, SX.evEq, SX.arith, SX.evLoad, SX.shapeUp, SX.evFieldAddr, SX.evField, SX.evIndexAddr, SX.evIndex, SX.evFill, SX.evBuild, SX.szs, SX.cellsV, SX.evNew, SX.evStore, SX.spliceL, SX.SV.cells, SX.evConv, SX.evSlice, SX.bnd, SX.evNil, SX.evUn, SX.evPick, SX.pickOpd, SX.popTo, SX.cnd, SX.env0, SX.TD.isAgg, SX.TD.isIface, SX.tails, SX.NotAgg, SX.evLookup, SX.evConvH, SX.evPtrEq, SX.isCells, SX.thaw, SX.frz, SX.fixB, SX.rootIx, SX.Froz, SX.frzStep, SX.fork, Go.Value.cells, Go.undef, cfg29, hr0]
      refine ⟨by (unfold SX.Ob; first | trivial | omega | ((try simp only [SX.inK]); (try simp [SX.den, SX.IsU8, SX.AllP, *]); (try omega))), ?_⟩
      intro a7 w7 hr7 _
      exact post_rnd (hi - (h + 1)) (by omega) ⟨h + 1, hi, rfl, by omega, by omega, hl3, .inr (by rw [Nat.add_sub_cancel, hx, hy]; exact hlt2), hk2, hr7.re (by simp [envTo, SX.look, den]) hr7.all rfl rfl⟩
    · have hge : key y ≤ key x := by
        have h := mt hrr.2 hr0
        omega
      refine seg cfg29_ok mixed PanicFree.body 1000 [false] [] h6 (by first | trivial | exact HpRep.nil | assumption) (by kernel_rfl) fun s_ hs_ => ?_
      simp (maxSteps := 10000000) [SX.vc, SX.stop, SX.contS, SX.contB, SX.contW, SX.contR, SX.contD, SX.sxStep, SX.stepPure, SX.stepNew, SX.stepStore, SX.stepKeep, SX.guardIx, SX.evOp, SX.opd, SX.opds, SX.optOpd, SX.look, SX.putS, SX.gobs, SX.AllP, SX.leave, SX.lookC, SX.lookB, SX.lookT, SX.lookN, SX.findK, SX.evBuiltin, SX.ints, SX.foldI, SX.evBin, SX.evInt, SX.evStr, SX.evEq, SX.arith, SX.evLoad, SX.shapeUp, SX.evFieldAddr, SX.evField, SX.evIndexAddr, SX.evIndex, SX.evFill, SX.evBuild, SX.szs, SX.cellsV, SX.evNew, SX.evStore, SX.spliceL, SX.SV.cells, SX.evConv, SX.evSlice, SX.bnd, SX.evNil, SX.evUn, SX.evPick, SX.pickOpd, SX.popTo, SX.cnd, SX.env0, SX.TD.isAgg, SX.TD.isIface, SX.tails, SX.NotAgg, SX.evLookup, SX.evConvH, SX.evPtrEq, SX.isCells, SX.thaw, SX.frz, SX.fixB, SX.rootIx, SX.Froz, SX.frzStep, SX.fork, Go.Value.cells, Go.undef, cfg29, hr0]
      refine ⟨by (unfold SX.Ob; first | trivial | omega | ((try simp only [SX.inK]); (try simp [SX.den, SX.IsU8, SX.AllP, *]); (try omega))), ?_⟩
      intro a7 w7 hr7 _
      exact post_rnd (h - lo) (by omega) ⟨lo, h, rfl, hl1, by omega, by omega, hk1, .inr (by rw [hx, hy]; exact hge), hr7.re (by simp [envTo, SX.look, den]) hr7.all rfl rfl⟩
  obtain rfl : lo = hi := by omega
  have hlt' : ¬ (lo : Int) < (lo : Int) := by omega
  refine seg cfg29_ok mixed PanicFree.body 1000 [false] [] hr2 (by first | trivial | exact HpRep.nil | assumption) (by kernel_rfl) fun s_ hs_ => ?_
  simp (maxSteps := 10000000) [SX.vc, SX.stop, SX.contS, SX.contB, SX.contW, SX.contR, SX.contD, SX.sxStep, SX.stepPure, SX.stepNew, SX.stepStore, SX.stepKeep, SX.guardIx, SX.evOp, SX.opd, SX.opds, SX.optOpd, SX.look, SX.putS, SX.gobs, SX.AllP, SX.leave, SX.lookC, SX.lookB, SX.lookT, SX.lookN, SX.findK, SX.evBuiltin, SX.ints, SX.foldI, SX.evBin, SX.evInt, SX.evStr, SX.evEq, SX.arith, SX.evLoad, SX.shapeUp, SX.evFieldAddr, SX.evField, SX.evIndexAddr, SX.evIndex, SX.evFill, SX.evBuild, SX.szs, SX.cellsV, SX.evNew, SX.evStore, SX.spliceL, SX.SV.cells, SX.evConv, SX.evSlice, SX.bnd, SX.evNil, SX.evUn, SX.evPick, SX.pickOpd, SX.popTo, SX.cnd, SX.env0, SX.TD.isAgg, SX.TD.isIface, SX.tails, SX.NotAgg, SX.evLookup, SX.evConvH, SX.evPtrEq, SX.isCells, SX.thaw, SX.frz, SX.fixB, SX.rootIx, SX.Froz, SX.frzStep, SX.fork, Go.Value.cells, Go.undef, cfg29, hlt']
  refine ⟨by (unfold SX.Ob; first | trivial | omega | ((try simp only [SX.inK]); (try simp [SX.den, SX.IsU8, SX.AllP, *]); (try omega))), ?_⟩
  intro a3 w3 hr3 _
  refine post_loop (SyA2 w b N u n cap c a0 lo g) (lo - a0) ⟨a0, row0, rfl, Nat.le_refl _, by omega, by rw [rot_id2 (by omega)]; exact hrow0, hr3.re (by simp [envTo, SX.look]) hr3.all rfl rfl⟩ ?_
  rintro mm a4 w4 ⟨k, row, rfl, hka, hki, hrow, hr4⟩
  obtain ⟨l1, rfl⟩ : ∃ l1, lo = l1 + 1 := ⟨lo - 1, by omega⟩
  have hl11 : ((l1 + 1 : Nat) : Int) - 1 = (l1 : Int) := by omega
  by_cases hkl : k < l1
  · have hkl' : (k : Int) < (l1 : Int) := by omega
    obtain ⟨q, hq⟩ : ∃ q, q = k + 1 := ⟨_, rfl⟩
    have hk1' : (k : Int) + 1 = (q : Int) := by omega
    have hkn : k < n := by omega
    have hqn : q < n := by omega
    have hkq : k ≠ q := by omega
    have hqk : q ≠ k := by omega
    obtain ⟨x, hx⟩ : ∃ x, rot g a0 (a0 + 1) (k + 1) q = x := ⟨_, rfl⟩
    obtain ⟨y, hy⟩ : ∃ y, rot g a0 (a0 + 1) (k + 1) k = y := ⟨_, rfl⟩
    have hrx : row q = [.v (.int .i64 x.at_), .v (.int .i64 x.lba), .v (.bool x.rd), .v (.int .i64 x.ver), .v (.int .u8 x.by_)] := by rw [hrow q hqn, hx]; rfl
    have hry : row k = [.v (.int .i64 y.at_), .v (.int .i64 y.lba), .v (.bool y.rd), .v (.int .i64 y.ver), .v (.int .u8 y.by_)] := by rw [hrow k hkn, hy]; rfl
    have hrx' : setRow row k [.v (.int .i64 x.at_), .v (.int .i64 x.lba), .v (.bool x.rd), .v (.int .i64 x.ver), .v (.int .u8 x.by_)] q = [.v (.int .i64 x.at_), .v (.int .i64 x.lba), .v (.bool x.rd), .v (.int .i64 x.ver), .v (.int .u8 x.by_)] := by unfold setRow; rw [if_neg hqk, hrx]
    clear hq
    refine seg cfg29_ok mixed PanicFree.body 1000 [true] [] hr4 (by first | trivial | exact HpRep.nil | assumption) (by kernel_rfl) fun s_ hs_ => ?_
    simp (maxSteps := 10000000) [SX.vc, SX.stop, SX.contS, SX.contB, SX.contW, SX.contR, SX.contD, SX.sxStep, SX.stepPure, SX.stepNew, SX.stepStore, SX.stepKeep, SX.guardIx, SX.evOp, SX.opd, SX.opds, SX.optOpd, SX.look, SX.putS, SX.gobs, SX.AllP, SX.leave, SX.lookC, SX.lookB, SX.lookT, SX.lookN, SX.findK, SX.evBuiltin, SX.ints, SX.foldI, SX.evBin, SX.evInt, SX.evStr, SX.evEq, SX.arith, SX.evLoad, SX.shapeUp, SX.evFieldAddr, SX.evField, SX.evIndexAddr, SX.evIndex, SX.evFill, SX.evBuild, SX.szs, SX.cellsV, SX.evNew, SX.evStore, SX.spliceL, SX.SV.cells, SX.evConv, SX.evSlice, SX.bnd, SX.evNil, SX.evUn, SX.evPick, SX.pickOpd, SX.popTo, SX.cnd, SX.env0, SX.TD.isAgg, SX.TD.isIface, SX.tails, SX.NotAgg, SX.evLookup, SX.evConvH, SX.evPtrEq, SX.isCells, SX.thaw, SX.frz, SX.fixB, SX.rootIx, SX.Froz, SX.frzStep, SX.fork, Go.Value.cells, Go.undef, cfg29, hl11, hkl', hk1', hrx, hry, hrx', hkn, hqn]
    refine ⟨by (unfold SX.Ob; first | trivial | omega | ((try simp only [SX.inK]); (try simp [SX.den, SX.IsU8, SX.AllP, *]); (try omega))), ?_⟩
    intro a5 w5 hr5 _
    have hq : q = k + 1 := by omega
    have hst : swp (rot g a0 (a0 + 1) (k + 1)) k q = rot g a0 (a0 + 1) (q + 1) := by rw [hq]; exact swp_up hka
    exact post_rnd (l1 + 1 - q) (by omega) ⟨q, _, rfl, by omega, by omega, by rw [← hst]; exact swp_row hrow hkq hx hy, hr5.re (by simp [envTo, SX.look, den]) hr5.all rfl rfl⟩
  · have hkl' : ¬ (k : Int) < (l1 : Int) := by omega
    obtain rfl : k = l1 := by omega
    refine seg cfg29_ok mixed PanicFree.body 1000 [false] [] hr4 (by first | trivial | exact HpRep.nil | assumption) (by kernel_rfl) fun s_ hs_ => ?_
    simp (maxSteps := 10000000) [SX.vc, SX.stop, SX.contS, SX.contB, SX.contW, SX.contR, SX.contD, SX.sxStep, SX.stepPure, SX.stepNew, SX.stepStore, SX.stepKeep, SX.guardIx, SX.evOp, SX.opd, SX.opds, SX.optOpd, SX.look, SX.putS, SX.gobs, SX.AllP, SX.leave, SX.lookC, SX.lookB, SX.lookT, SX.lookN, SX.findK, SX.evBuiltin, SX.ints, SX.foldI, SX.evBin, SX.evInt, SX.evStr, SX.evEq, SX.arith, SX.evLoad, SX.shapeUp, SX.evFieldAddr, SX.evField, SX.evIndexAddr, SX.evIndex, SX.evFill, SX.evBuild, SX.szs, SX.cellsV, SX.evNew, SX.evStore, SX.spliceL, SX.SV.cells, SX.evConv, SX.evSlice, SX.bnd, SX.evNil, SX.evUn, SX.evPick, SX.pickOpd, SX.popTo, SX.cnd, SX.env0, SX.TD.isAgg, SX.TD.isIface, SX.tails, SX.NotAgg, SX.evLookup, SX.evConvH, SX.evPtrEq, SX.isCells, SX.thaw, SX.frz, SX.fixB, SX.rootIx, SX.Froz, SX.frzStep, SX.fork, Go.Value.cells, Go.undef, cfg29, hl11, hkl']
    refine ⟨by (unfold SX.Ob; first | trivial | omega | ((try simp only [SX.inK]); (try simp [SX.den, SX.IsU8, SX.AllP, *]); (try omega))), ?_⟩
    intro a5 w5 hr5 _
    refine post_retn (end0 hr5 rfl ⟨rfl, ⟨_, ⟨hN, row, hr5.all.1.1, hrow⟩, ?_, ?_⟩, hr5.keeps⟩).1
    · refine (SameF.rot (by omega) (by omega) fun p q p1 p2 q1 q2 => ?_).wide (Nat.le_refl _) (by omega) (by omega)
      rw [show p = a0 by omega]
      have h := hB q k q1 (by omega) (by omega)
      rcases hk1 with h5 | h5
      · omega
      · rw [Nat.add_sub_cancel] at h5; omega
    · refine rot_sorted (Nat.le_refl _) (by omega) (by omega) hl3 hA hB ?_ ?_ ?_ ?_
      · intro p q p1 p2 q1 q2; omega
      · intro p q p1 p2 q1 q2
        rw [show p = a0 by omega]
        have h := hB q k q1 (by omega) (by omega)
        rcases hk1 with h5 | h5
        · omega
        · rw [Nat.add_sub_cancel] at h5; omega
      · intro p q p1 p2 q1 q2
        rw [show p = a0 by omega]
        rcases hk2 with h5 | h5
        · omega
        · have h := hB (k + 1) q (by omega) q1 q2
          omega
      · intro p q p1 p2 q1 q2; omega

set_option maxRecDepth 100000 in
set_option maxHeartbeats 32000000 in
/-- symMerge of more with one thing. -/
theorem symB_ok (w0 w : World) (b N u n cap c a0 m0 b0 : Nat) (key : HEv → Int) (V : HEv → Prop) (g : Nat → HEv) (hc : CmpAt w0 b c key V) (hw : KeepsTo w0 [b] w) (hD : DatF w b N u n g) (hn : n ≤ 1000) (h1 : a0 < m0) (h2 : m0 < b0) (h3 : b0 ≤ n) (hV : ∀ j, j < n → V (g j)) (hA : SortF key a0 m0 g) (hB : SortF key m0 b0 g) (h4 : m0 ≠ a0 + 1) (h5 : b0 = m0 + 1) : Calls Try.prog 29 (denL [.sl 0 b 0 0 n cap 5, .v (.int .i64 a0), .v (.int .i64 m0), .v (.int .i64 b0), .fn (.func 17) [] []]).toArray w (SrtR w b N u n fun g' => SameF key a0 b0 g g' ∧ SortF key a0 b0 g') := by
  obtain ⟨hN, row0, hrep0, hrow0⟩ := hD
  refine enter (F := ⟨w, w.heap.size, [b]⟩) Try.func29 rfl [.sl 0 b 0 0 n cap 5, .v (.int .i64 a0), .v (.int .i64 m0), .v (.int .i64 b0), .fn (.func 17) [] []] [(b, true, .arr 0 N row0 5 u (0, 0))] (by simp [Try.f29, denL, den]) ⟨⟨hrep0, fun _ => .inr (by simp), by simp⟩, trivial⟩ (KeepsTo.refl w _) fun a hr => ?_
  subst h5
  obtain ⟨d, hd⟩ : ∃ d : Int, d = (m0 : Int) - (a0 : Int) := ⟨_, rfl⟩
  have hd1 : (d == 1) = false := by simp; omega
  have hd2 : ((m0 + 1 : Nat) : Int) - (m0 : Int) = 1 := by omega
  have hd3 : (m0 : Int) - (a0 : Int) = d := hd.symm
  have hd4 : (m0 : Int) + 1 - (m0 : Int) = 1 := by omega
  clear hd
  refine seg cfg29_ok mixed PanicFree.body 1000 [false, true] [] hr (by first | trivial | exact HpRep.nil | assumption) (by kernel_rfl) fun s_ hs_ => ?_
  simp (maxSteps := 10000000) [SX.vc, SX.stop, SX.contS, SX.contB, SX.contW, SX.contR, SX.contD, SX.sxStep, SX.stepPure, SX.stepNew, SX.stepStore, SX.stepKeep, SX.guardIx, SX.evOp, SX.opd, SX.opds, SX.optOpd, SX.look, SX.putS, SX.gobs, SX.AllP, SX.leave, SX.lookC, SX.lookB, SX.lookT, SX.lookN, SX.findK, SX.evBuiltin, SX.ints, SX.foldI, SX.evBin, SX.evInt, SX.evStr, SX.evEq, SX.arith, SX.evLoad, SX.shapeUp, SX.evFieldAddr, SX.evField, SX.evIndexAddr, SX.evIndex, SX.evFill, SX.evBuild, SX.szs, SX.cellsV, SX.evNew, SX.evStore, SX.spliceL, SX.SV.cells, SX.evConv, SX.evSlice, SX.bnd, SX.evNil, SX.evUn, SX.evPick, SX.pickOpd, SX.popTo, SX.cnd, SX.env0, SX.TD.isAgg, SX.TD.isIface, SX.tails, SX.NotAgg, SX.evLookup, SX.evConvH, SX.evPtrEq, SX.isCells, SX.thaw, SX.frz, SX.fixB, SX.rootIx, SX.Froz, SX.frzStep, SX.fork, Go.Value.cells, Go.undef, cfg29, Try.f29, hd1, hd2, hd3, hd4]
  refine ⟨by (unfold SX.Ob; first | trivial | omega | ((try simp only [SX.inK]); (try simp [SX.den, SX.IsU8, SX.AllP, *]); (try omega))), ?_⟩
  intro a1 w1 hr1 _
  refine post_loop (SyB1 w b N u n cap c a0 m0 key g row0) (m0 - a0) ⟨a0, m0, rfl, by omega, by omega, by omega, .inl rfl, .inl rfl, hr1.re (by simp [envTo, SX.look]) hr1.all rfl rfl⟩ ?_
  rintro mm a2 w2 ⟨lo, hi, rfl, hl1, hl2, hl3, hk1, hk2, hr2⟩
  by_cases hlt : lo < hi
  · have hlt' : (lo : Int) < (hi : Int) := by omega
    obtain ⟨h, hh⟩ : ∃ h, (lo + hi) / 2 = h := ⟨_, rfl⟩
    have hm := mid_ok lo hi (by omega)
    rw [hh] at hm
    have hb1 : lo ≤ h ∧ h < hi := by omega
    clear hh
    have hhn : h < n := by omega
    have hmn : m0 < n := by omega
    obtain ⟨x, hx⟩ : ∃ x, g m0 = x := ⟨_, rfl⟩
    obtain ⟨y, hy⟩ : ∃ y, g h = y := ⟨_, rfl⟩
    have hrx : row0 m0 = [.v (.int .i64 x.at_), .v (.int .i64 x.lba), .v (.bool x.rd), .v (.int .i64 x.ver), .v (.int .u8 x.by_)] := by rw [hrow0 m0 hmn, hx]; rfl
    have hry : row0 h = [.v (.int .i64 y.at_), .v (.int .i64 y.lba), .v (.bool y.rd), .v (.int .i64 y.ver), .v (.int .u8 y.by_)] := by rw [hrow0 h hhn, hy]; rfl
    refine seg cfg29_ok mixed PanicFree.body 1000 [true] [] hr2 (by first | trivial | exact HpRep.nil | assumption) (by kernel_rfl) fun s_ hs_ => ?_
    simp (maxSteps := 10000000) [SX.vc, SX.stop, SX.contS, SX.contB, SX.contW, SX.contR, SX.contD, SX.sxStep, SX.stepPure, SX.stepNew, SX.stepStore, SX.stepKeep, SX.guardIx, SX.evOp, SX.opd, SX.opds, SX.optOpd, SX.look, SX.putS, SX.gobs, SX.AllP, SX.leave, SX.lookC, SX.lookB, SX.lookT, SX.lookN, SX.findK, SX.evBuiltin, SX.ints, SX.foldI, SX.evBin, SX.evInt, SX.evStr, SX.evEq, SX.arith, SX.evLoad, SX.shapeUp, SX.evFieldAddr, SX.evField, SX.evIndexAddr, SX.evIndex, SX.evFill, SX.evBuild, SX.szs, SX.cellsV, SX.evNew, SX.evStore, SX.spliceL, SX.SV.cells, SX.evConv, SX.evSlice, SX.bnd, SX.evNil, SX.evUn, SX.evPick, SX.pickOpd, SX.popTo, SX.cnd, SX.env0, SX.TD.isAgg, SX.TD.isIface, SX.tails, SX.NotAgg, SX.evLookup, SX.evConvH, SX.evPtrEq, SX.isCells, SX.thaw, SX.frz, SX.fixB, SX.rootIx, SX.Froz, SX.frzStep, SX.fork, Go.Value.cells, Go.undef, cfg29, hlt', hm, hrx, hry, hhn, hmn]
    refine ⟨by (unfold SX.Ob; first | trivial | omega | ((try simp only [SX.inK]); (try simp [SX.den, SX.IsU8, SX.AllP, *]); (try omega))), ?_⟩
    intro a5 w5 hr5 ht5
    refine post_callD 17 [.ag [.v (.int .i64 x.at_), .v (.int .i64 x.lba), .v (.bool x.rd), .v (.int .i64 x.ver), .v (.int .u8 x.by_)], .ag [.v (.int .i64 y.at_), .v (.int .i64 y.lba), .v (.bool y.rd), .v (.int .i64 y.ver), .v (.int .u8 y.by_)]] hr5 rfl (by first | exact wanted_none rfl | exact wanted_zero (hr5.env.same rfl rfl rfl rfl) rfl (by simp)) rfl (callable 17 Try.func17) (hc w5 (KeepsTo.more hw hr5.keeps) x y (hx ▸ hV m0 hmn) (hy ▸ hV h hhn)) ?_
    rintro e6 w6 ⟨⟨r, rfl, hrr⟩, hb6⟩
    have ht6 := HpRep_below ht5 hb6
    refine ⟨_, rfl, ht6, ?_⟩
    have h6 := hr5.ret hb6 101 (.v (.int .i64 r)) rfl _ (hr5.all.below hb6) (by simp) rfl
    by_cases hr0 : r < 0
    · have hlt2 : key x < key y := hrr.1 hr0
      refine seg cfg29_ok mixed PanicFree.body 1000 [false] [] h6 (by first | trivial | exact HpRep.nil | assumption) (by kernel_rfl) fun s_ hs_ => ?_
      simp (maxSteps := 10000000) [SX.vc, SX.stop, SX.contS, SX.contB, SX.contW, SX.contR, SX.contD, SX.sxStep, SX.stepPure, SX.stepNew, SX.stepStore, SX.stepKeep, SX.guardIx, SX.evOp, SX.opd, SX.opds, SX.optOpd, SX.look, SX.putS, SX.gobs, SX.AllP, SX.leave, SX.lookC, SX.lookB, SX.lookT, SX.lookN, SX.findK, SX.evBuiltin, SX.ints, SX.foldI, SX.evBin, SX.evInt, SX.evStr, SX.evEq, SX.arith, SX.evLoad, SX.shapeUp, SX.evFieldAddr, SX.evField, SX.evIndexAddr, SX.evIndex, SX.evFill, SX.evBuild, SX.szs, SX.cellsV, SX.evNew, SX.evStore, SX.spliceL, SX.SV.cells, SX.evConv, SX.evSlice, SX.bnd, SX.evNil, SX.evUn, SX.evPick, SX.pickOpd, SX.popTo, SX.cnd, SX.env0, SX.TD.isAgg, SX.TD.isIface, SX.tails, SX.NotAgg, SX.evLookup, SX.evConvH, SX.evPtrEq, SX.isCells, SX.thaw, SX.frz, SX.fixB, SX.rootIx, SX.Froz, SX.frzStep, SX.fork, Go.Value.cells, Go.undef, cfg29, hr0]
      refine ⟨by (unfold SX.Ob; first | trivial | omega | ((try simp only [SX.inK]); (try simp [SX.den, SX.IsU8, SX.AllP, *]); (try omega))), ?_⟩
      intro a7 w7 hr7 _
      exact post_rnd (h - lo) (by omega) ⟨lo, h, rfl, hl1, by omega, by omega, hk1, .inr (by rw [hx, hy]; exact hlt2), hr7.re (by simp [envTo, SX.look, den]) hr7.all rfl rfl⟩
    · have hge : key y ≤ key x := by
        have h := mt hrr.2 hr0
        omega
      refine seg cfg29_ok mixed PanicFree.body 1000 [true] [] h6 (by first | trivial | exact HpRep.nil | assumption) (by kernel_rfl) fun s_ hs_ => ?_
      simp (maxSteps := 10000000) [SX.vc, SX.stop, SX.contS, SX.contB, SX.contW, SX.contR, SX.contD, SX.sxStep, SX.stepPure, SX.stepNew, SX.stepStore, SX.stepKeep, SX.guardIx, SX.evOp, SX.opd, SX.opds, SX.optOpd, SX.look, SX.putS, SX.gobs, SX.AllP, SX.leave, SX.lookC, SX.lookB, SX.lookT, SX.lookN, SX.findK, SX.evBuiltin, SX.ints, SX.foldI, SX.evBin, SX.evInt, SX.evStr, SX.evEq, SX.arith, SX.evLoad, SX.shapeUp, SX.evFieldAddr, SX.evField, SX.evIndexAddr, SX.evIndex, SX.evFill, SX.evBuild, SX.szs, SX.cellsV, SX.evNew, SX.evStore, SX.spliceL, SX.SV.cells, SX.evConv, SX.evSlice, SX.bnd, SX.evNil, SX.evUn, SX.evPick, SX.pickOpd, SX.popTo, SX.cnd, SX.env0, SX.TD.isAgg, SX.TD.isIface, SX.tails, SX.NotAgg, SX.evLookup, SX.evConvH, SX.evPtrEq, SX.isCells, SX.thaw, SX.frz, SX.fixB, SX.rootIx, SX.Froz, SX.frzStep, SX.fork, Go.Value.cells, Go.undef, cfg29, hr0]
      refine ⟨by (unfold SX.Ob; first | trivial | omega | ((try simp only [SX.inK]); (try simp [SX.den, SX.IsU8, SX.AllP, *]); (try omega))), ?_⟩
      intro a7 w7 hr7 _
      exact post_rnd (hi - (h + 1)) (by omega) ⟨h + 1, hi, rfl, by omega, by omega, hl3, .inr (by rw [Nat.add_sub_cancel, hx, hy]; exact hge), hk2, hr7.re (by simp [envTo, SX.look, den]) hr7.all rfl rfl⟩
  obtain rfl : lo = hi := by omega
  have hlt' : ¬ (lo : Int) < (lo : Int) := by omega
  refine seg cfg29_ok mixed PanicFree.body 1000 [false] [] hr2 (by first | trivial | exact HpRep.nil | assumption) (by kernel_rfl) fun s_ hs_ => ?_
  simp (maxSteps := 10000000) [SX.vc, SX.stop, SX.contS, SX.contB, SX.contW, SX.contR, SX.contD, SX.sxStep, SX.stepPure, SX.stepNew, SX.stepStore, SX.stepKeep, SX.guardIx, SX.evOp, SX.opd, SX.opds, SX.optOpd, SX.look, SX.putS, SX.gobs, SX.AllP, SX.leave, SX.lookC, SX.lookB, SX.lookT, SX.lookN, SX.findK, SX.evBuiltin, SX.ints, SX.foldI, SX.evBin, SX.evInt, SX.evStr, SX.evEq, SX.arith, SX.evLoad, SX.shapeUp, SX.evFieldAddr, SX.evField, SX.evIndexAddr, SX.evIndex, SX.evFill, SX.evBuild, SX.szs, SX.cellsV, SX.evNew, SX.evStore, SX.spliceL, SX.SV.cells, SX.evConv, SX.evSlice, SX.bnd, SX.evNil, SX.evUn, SX.evPick, SX.pickOpd, SX.popTo, SX.cnd, SX.env0, SX.TD.isAgg, SX.TD.isIface, SX.tails, SX.NotAgg, SX.evLookup, SX.evConvH, SX.evPtrEq, SX.isCells, SX.thaw, SX.frz, SX.fixB, SX.rootIx, SX.Froz, SX.frzStep, SX.fork, Go.Value.cells, Go.undef, cfg29, hlt']
  refine ⟨by (unfold SX.Ob; first | trivial | omega | ((try simp only [SX.inK]); (try simp [SX.den, SX.IsU8, SX.AllP, *]); (try omega))), ?_⟩
  intro a3 w3 hr3 _
  refine post_loop (SyB2 w b N u n cap c m0 lo g) (m0 - lo) ⟨m0, row0, rfl, by omega, Nat.le_refl _, by rw [rot_id1]; exact hrow0, hr3.re (by simp [envTo, SX.look]) hr3.all rfl rfl⟩ ?_
  rintro mm a4 w4 ⟨k, row, rfl, hki, hkm, hrow, hr4⟩
  by_cases hkl : lo < k
  · have hkl' : (lo : Int) < (k : Int) := by omega
    obtain ⟨p, hp⟩ : ∃ p, k = p + 1 := ⟨k - 1, by omega⟩
    have hk1' : (k : Int) - 1 = (p : Int) := by omega
    have hkn : k < n := by omega
    have hpn : p < n := by omega
    have hkp : k ≠ p := by omega
    have hpk : p ≠ k := by omega
    obtain ⟨x, hx⟩ : ∃ x, rot g k m0 (m0 + 1) p = x := ⟨_, rfl⟩
    obtain ⟨y, hy⟩ : ∃ y, rot g k m0 (m0 + 1) k = y := ⟨_, rfl⟩
    have hrx : row p = [.v (.int .i64 x.at_), .v (.int .i64 x.lba), .v (.bool x.rd), .v (.int .i64 x.ver), .v (.int .u8 x.by_)] := by rw [hrow p hpn, hx]; rfl
    have hry : row k = [.v (.int .i64 y.at_), .v (.int .i64 y.lba), .v (.bool y.rd), .v (.int .i64 y.ver), .v (.int .u8 y.by_)] := by rw [hrow k hkn, hy]; rfl
    have hrx' : setRow row k [.v (.int .i64 x.at_), .v (.int .i64 x.lba), .v (.bool x.rd), .v (.int .i64 x.ver), .v (.int .u8 x.by_)] p = [.v (.int .i64 x.at_), .v (.int .i64 x.lba), .v (.bool x.rd), .v (.int .i64 x.ver), .v (.int .u8 x.by_)] := by unfold setRow; rw [if_neg hpk, hrx]
    clear hp
    refine seg cfg29_ok mixed PanicFree.body 1000 [true] [] hr4 (by first | trivial | exact HpRep.nil | assumption) (by kernel_rfl) fun s_ hs_ => ?_
    simp (maxSteps := 10000000) [SX.vc, SX.stop, SX.contS, SX.contB, SX.contW, SX.contR, SX.contD, SX.sxStep, SX.stepPure, SX.stepNew, SX.stepStore, SX.stepKeep, SX.guardIx, SX.evOp, SX.opd, SX.opds, SX.optOpd, SX.look, SX.putS, SX.gobs, SX.AllP, SX.leave, SX.lookC, SX.lookB, SX.lookT, SX.lookN, SX.findK, SX.evBuiltin, SX.ints, SX.foldI, SX.evBin, SX.evInt, SX.evStr, SX.evEq, SX.arith, SX.evLoad, SX.shapeUp, SX.evFieldAddr, SX.evField, SX.evIndexAddr, SX.evIndex, SX.evFill, SX.evBuild, SX.szs, SX.cellsV, SX.evNew, SX.evStore, SX.spliceL, SX.SV.cells, SX.evConv, SX.evSlice, SX.bnd, SX.evNil, SX.evUn, SX.evPick, SX.pickOpd, SX.popTo, SX.cnd, SX.env0, SX.TD.isAgg, SX.TD.isIface, SX.tails, SX.NotAgg, SX.evLookup, SX.evConvH, SX.evPtrEq, SX.isCells, SX.thaw, SX.frz, SX.fixB, SX.rootIx, SX.Froz, SX.frzStep, SX.fork, Go.Value.cells, Go.undef, cfg29, hkl', hk1', hrx, hry, hrx', hkn, hpn]
    refine ⟨by (unfold SX.Ob; first | trivial | omega | ((try simp only [SX.inK]); (try simp [SX.den, SX.IsU8, SX.AllP, *]); (try omega))), ?_⟩
    intro a5 w5 hr5 _
    have hp : k = p + 1 := by omega
    have hst := swp_down (g := g) (k := p) (m := m0) (by omega)
    exact post_rnd (p - lo) (by omega) ⟨p, _, rfl, by omega, by omega, by rw [← hst, ← hp]; exact swp_row hrow hkp hx hy, hr5.re (by simp [envTo, SX.look, den]) hr5.all rfl rfl⟩
  · have hkl' : ¬ (lo : Int) < (k : Int) := by omega
    obtain rfl : lo = k := by omega
    refine seg cfg29_ok mixed PanicFree.body 1000 [false] [] hr4 (by first | trivial | exact HpRep.nil | assumption) (by kernel_rfl) fun s_ hs_ => ?_
    simp (maxSteps := 10000000) [SX.vc, SX.stop, SX.contS, SX.contB, SX.contW, SX.contR, SX.contD, SX.sxStep, SX.stepPure, SX.stepNew, SX.stepStore, SX.stepKeep, SX.guardIx, SX.evOp, SX.opd, SX.opds, SX.optOpd, SX.look, SX.putS, SX.gobs, SX.AllP, SX.leave, SX.lookC, SX.lookB, SX.lookT, SX.lookN, SX.findK, SX.evBuiltin, SX.ints, SX.foldI, SX.evBin, SX.evInt, SX.evStr, SX.evEq, SX.arith, SX.evLoad, SX.shapeUp, SX.evFieldAddr, SX.evField, SX.evIndexAddr, SX.evIndex, SX.evFill, SX.evBuild, SX.szs, SX.cellsV, SX.evNew, SX.evStore, SX.spliceL, SX.SV.cells, SX.evConv, SX.evSlice, SX.bnd, SX.evNil, SX.evUn, SX.evPick, SX.pickOpd, SX.popTo, SX.cnd, SX.env0, SX.TD.isAgg, SX.TD.isIface, SX.tails, SX.NotAgg, SX.evLookup, SX.evConvH, SX.evPtrEq, SX.isCells, SX.thaw, SX.frz, SX.fixB, SX.rootIx, SX.Froz, SX.frzStep, SX.fork, Go.Value.cells, Go.undef, cfg29, hkl']
    refine ⟨by (unfold SX.Ob; first | trivial | omega | ((try simp only [SX.inK]); (try simp [SX.den, SX.IsU8, SX.AllP, *]); (try omega))), ?_⟩
    intro a5 w5 hr5 _
    refine post_retn (end0 hr5 rfl ⟨rfl, ⟨_, ⟨hN, row, hr5.all.1.1, hrow⟩, ?_, ?_⟩, hr5.keeps⟩).1
    · refine (SameF.rot (by omega) (by omega) fun p q p1 p2 q1 q2 => ?_).wide hl1 (by omega) (by omega)
      rw [show q = m0 by omega]
      rcases hk2 with h5 | h5
      · omega
      · have h := hA lo p (by omega) p1 p2
        omega
    · refine rot_sorted hl1 (by omega) (by omega) (by omega) hA hB ?_ ?_ ?_ ?_
      · intro p q p1 p2 q1 q2
        rw [show q = m0 by omega]
        rcases hk1 with h5 | h5
        · omega
        · have h := hA p (lo - 1) p1 (by omega) (by omega)
          omega
      · intro p q p1 p2 q1 q2
        rw [show q = m0 by omega]
        rcases hk2 with h5 | h5
        · omega
        · have h := hA lo p (by omega) p1 p2
          omega
      · intro p q p1 p2 q1 q2; omega
      · intro p q p1 p2 q1 q2; omega
end Go.Proofs
