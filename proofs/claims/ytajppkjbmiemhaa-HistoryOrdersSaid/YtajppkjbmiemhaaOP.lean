/- Histories: symMerge; the stable sort. -/
import Derived.Test.YtajppkjbmiemhaaOO
namespace Go.Proofs
set_option linter.unusedVariables false
set_option linter.unusedSimpArgs false
set_option linter.unusedSectionVars false
open Go Go.SX Go.RowKit Go.Hist

def SyC (w : World) (b N u n cap c a0 m0 b0 md n0 p0 lo0 hi0 : Nat) (key : HEv → Int) (g : Nat → HEv) (row : Nat → List SV) (mm : Nat) (a : Act) (w' : World) : Prop :=
  ∃ lo hi : Nat, mm = hi - lo ∧ lo0 ≤ lo ∧ lo ≤ hi ∧ hi ≤ hi0 ∧ (lo = lo0 ∨ key (g (lo - 1)) ≤ key (g (p0 - (lo - 1)))) ∧ (hi = hi0 ∨ key (g (p0 - hi)) < key (g hi)) ∧ RepX ⟨w, w.heap.size, [b]⟩ ⟨[(20, 0, .v (.int .i64 lo)), (21, 0, .v (.int .i64 hi)), (22, 0, .v (.int .i64 p0)), (18, 0, .v (.int .i64 md)), (19, 0, .v (.int .i64 n0)), (0, 0, .sl 0 b 0 0 n cap 5), (1, 0, .v (.int .i64 a0)), (2, 0, .v (.int .i64 m0)), (3, 0, .v (.int .i64 b0)), (4, 0, .fn (.func 17) [] [])], [(b, true, .arr 0 N row 5 u (0, 0))], 0, 0, 220, [], [], []⟩ a w'
/-- Where the ways of a merge meet. -/
def SyJ (w : World) (b N u n cap c a0 m0 b0 md s0 e0 : Nat) (Q : (Nat → HEv) → Prop) (a : Act) (w' : World) : Prop :=
  ∃ (G : Nat → HEv) (row : Nat → List SV), Q G ∧ (∀ t, t < n → row t = evRow (G t)) ∧ RepX ⟨w, w.heap.size, [b]⟩ ⟨[(20, 0, .v (.int .i64 s0)), (24, 0, .v (.int .i64 e0)), (18, 0, .v (.int .i64 md)), (0, 0, .sl 0 b 0 0 n cap 5), (1, 0, .v (.int .i64 a0)), (2, 0, .v (.int .i64 m0)), (3, 0, .v (.int .i64 b0)), (4, 0, .fn (.func 17) [] [])], [(b, true, .arr 0 N row 5 u (0, 0))], 0, 0, 220, [], [], []⟩ a w'

set_option maxRecDepth 100000 in
set_option maxHeartbeats 64000000 in
/-- symMerge. -/
theorem sym_ok : ∀ (K : Nat) (w0 w : World) (b N u n cap c a0 m0 b0 : Nat) (key : HEv → Int) (V : HEv → Prop) (g : Nat → HEv) (hc : CmpAt w0 b c key V) (hw : KeepsTo w0 [b] w) (hD : DatF w b N u n g) (hn : n ≤ 1000) (h1 : a0 < m0) (h2 : m0 < b0) (h3 : b0 ≤ n) (hV : ∀ j, j < n → V (g j)) (hA : SortF key a0 m0 g) (hB : SortF key m0 b0 g) (hK : b0 - a0 ≤ K), Calls Try.prog 29 (denL [.sl 0 b 0 0 n cap 5, .v (.int .i64 a0), .v (.int .i64 m0), .v (.int .i64 b0), .fn (.func 17) [] []]).toArray w (SrtR w b N u n fun g' => SameF key a0 b0 g g' ∧ SortF key a0 b0 g')
  | 0, w0, w, b, N, u, n, cap, c, a0, m0, b0, key, V, g, hc, hw, hD, hn, h1, h2, h3, hV, hA, hB, hK => by omega
  | K + 1, w0, w, b, N, u, n, cap, c, a0, m0, b0, key, V, g, hc, hw, hD, hn, h1, h2, h3, hV, hA, hB, hK => by
    have IH := sym_ok K
    by_cases c1 : m0 = a0 + 1
    · exact symA_ok w0 w b N u n cap c a0 m0 b0 key V g hc hw hD hn h1 h2 h3 hV hA hB c1
    by_cases c2 : b0 = m0 + 1
    · exact symB_ok w0 w b N u n cap c a0 m0 b0 key V g hc hw hD hn h1 h2 h3 hV hA hB c1 c2
    obtain ⟨hN, row0, hrep0, hrow0⟩ := hD
    refine enter (F := ⟨w, w.heap.size, [b]⟩) Try.func29 rfl [.sl 0 b 0 0 n cap 5, .v (.int .i64 a0), .v (.int .i64 m0), .v (.int .i64 b0), .fn (.func 17) [] []] [(b, true, .arr 0 N row0 5 u (0, 0))] (by simp [Try.f29, denL, den]) ⟨⟨hrep0, fun _ => .inr (by simp), by simp⟩, trivial⟩ (KeepsTo.refl w _) fun a hr => ?_
    obtain ⟨d1, e1⟩ : ∃ d : Int, d = (m0 : Int) - (a0 : Int) := ⟨_, rfl⟩
    obtain ⟨d2, e2⟩ : ∃ d : Int, d = (b0 : Int) - (m0 : Int) := ⟨_, rfl⟩
    have hd1 : (d1 == 1) = false := by simp; omega
    have hd2 : (d2 == 1) = false := by simp; omega
    have hd3 : (m0 : Int) - (a0 : Int) = d1 := e1.symm
    have hd4 : (b0 : Int) - (m0 : Int) = d2 := e2.symm
    clear e1 e2
    obtain ⟨md, hmd⟩ : ∃ h, (a0 + b0) / 2 = h := ⟨_, rfl⟩
    have hm1 := mid_ok a0 b0 (by omega)
    rw [hmd] at hm1
    have hmd1 : 2 * md ≤ a0 + b0 ∧ a0 + b0 ≤ 2 * md + 1 := by omega
    clear hmd
    obtain ⟨n0, hn0e⟩ : ∃ n0, n0 = md + m0 := ⟨_, rfl⟩
    have hn0 : (md : Int) + (m0 : Int) = (n0 : Int) := by omega
    obtain ⟨p0, hp0e⟩ : ∃ p0, n0 = p0 + 1 := ⟨n0 - 1, by omega⟩
    have hp0 : (n0 : Int) - 1 = (p0 : Int) := by omega
    clear hn0e hp0e
    by_cases hb : md < m0
    · have hbig : (md : Int) < (m0 : Int) := by omega
      obtain ⟨sb, hsbe⟩ : ∃ sb, n0 = sb + b0 := ⟨n0 - b0, by omega⟩
      have hsb : (n0 : Int) - (b0 : Int) = (sb : Int) := by omega
      clear hsbe
      refine seg cfg29_ok mixed PanicFree.body 1000 [false, false, true] [] hr (by first | trivial | exact HpRep.nil | assumption) (by kernel_rfl) fun s_ hs_ => ?_
      simp (maxSteps := 10000000) [SX.vc, SX.stop, SX.contS, SX.contB, SX.contW, SX.contR, SX.contD, SX.sxStep, SX.stepPure, SX.stepNew, SX.stepStore, SX.stepKeep, SX.guardIx, SX.evOp, SX.opd, SX.opds, SX.optOpd, SX.look, SX.putS, SX.gobs, SX.AllP, SX.leave, SX.lookC, SX.lookB, SX.lookT, SX.lookN, SX.findK, SX.evBuiltin, SX.ints, SX.foldI, SX.evBin, SX.evInt, SX.evStr, SX.evEq, SX.arith, SX.evLoad, SX.shapeUp, SX.evFieldAddr, SX.evField, SX.evIndexAddr, SX.evIndex, SX.evFill, SX.evBuild, SX.szs, SX.cellsV, SX.evNew, SX.evStore, SX.spliceL, SX.SV.cells, SX.evConv, SX.evSlice, SX.bnd, SX.evNil, SX.evUn, SX.evPick, SX.pickOpd, SX.popTo, SX.cnd, SX.env0, SX.TD.isAgg, SX.TD.isIface, SX.tails, SX.NotAgg, SX.evLookup, SX.evConvH, SX.evPtrEq, SX.isCells, SX.thaw, SX.frz, SX.fixB, SX.rootIx, SX.Froz, SX.frzStep, SX.fork, Go.Value.cells, Go.undef, cfg29, Try.f29, hd1, hd2, hm1, hd3, hd4, hn0, hbig, hsb, hp0]
      refine ⟨by (unfold SX.Ob; first | trivial | omega | ((try simp only [SX.inK]); (try simp [SX.den, SX.IsU8, SX.AllP, *]); (try omega))), ?_⟩
      intro a1 w1 hr1 _
      refine post_loop (SyC w b N u n cap c a0 m0 b0 md n0 p0 sb md key g row0) (md - sb) ⟨sb, md, rfl, Nat.le_refl _, by omega, Nat.le_refl _, .inl rfl, .inl rfl, hr1.re (by simp [envTo, SX.look]) hr1.all rfl rfl⟩ ?_
      rintro mm a2 w2 ⟨lo, hi, rfl, hl1, hl2, hl3, hk1, hk2, hr2⟩
      by_cases hlt : lo < hi
      · have hlt' : (lo : Int) < (hi : Int) := by omega
        obtain ⟨h, hh⟩ : ∃ h, (lo + hi) / 2 = h := ⟨_, rfl⟩
        have hm := mid_ok lo hi (by omega)
        rw [hh] at hm
        have hb1 : lo ≤ h ∧ h < hi := by omega
        clear hh
        obtain ⟨q, hq⟩ : ∃ q, p0 = q + h := ⟨p0 - h, by omega⟩
        have hqh : (p0 : Int) - (h : Int) = (q : Int) := by omega
        have hhn : h < n := by omega
        have hqn : q < n := by omega
        obtain ⟨x, hx⟩ : ∃ x, g q = x := ⟨_, rfl⟩
        obtain ⟨y, hy⟩ : ∃ y, g h = y := ⟨_, rfl⟩
        have hrx : row0 q = [.v (.int .i64 x.at_), .v (.int .i64 x.lba), .v (.bool x.rd), .v (.int .i64 x.ver), .v (.int .u8 x.by_)] := by rw [hrow0 q hqn, hx]; rfl
        have hry : row0 h = [.v (.int .i64 y.at_), .v (.int .i64 y.lba), .v (.bool y.rd), .v (.int .i64 y.ver), .v (.int .u8 y.by_)] := by rw [hrow0 h hhn, hy]; rfl
        have hgq : g (p0 - h) = x := by rw [show p0 - h = q by omega]; exact hx
        clear hq
        refine seg cfg29_ok mixed PanicFree.body 1000 [true] [] hr2 (by first | trivial | exact HpRep.nil | assumption) (by kernel_rfl) fun s_ hs_ => ?_
        simp (maxSteps := 10000000) [SX.vc, SX.stop, SX.contS, SX.contB, SX.contW, SX.contR, SX.contD, SX.sxStep, SX.stepPure, SX.stepNew, SX.stepStore, SX.stepKeep, SX.guardIx, SX.evOp, SX.opd, SX.opds, SX.optOpd, SX.look, SX.putS, SX.gobs, SX.AllP, SX.leave, SX.lookC, SX.lookB, SX.lookT, SX.lookN, SX.findK, SX.evBuiltin, SX.ints, SX.foldI, SX.evBin, SX.evInt, SX.evStr, SX.evEq, SX.arith, SX.evLoad, SX.shapeUp, SX.evFieldAddr, SX.evField, SX.evIndexAddr, SX.evIndex, SX.evFill, SX.evBuild, SX.szs, SX.cellsV, SX.evNew, SX.evStore, SX.spliceL, SX.SV.cells, SX.evConv, SX.evSlice, SX.bnd, SX.evNil, SX.evUn, SX.evPick, SX.pickOpd, SX.popTo, SX.cnd, SX.env0, SX.TD.isAgg, SX.TD.isIface, SX.tails, SX.NotAgg, SX.evLookup, SX.evConvH, SX.evPtrEq, SX.isCells, SX.thaw, SX.frz, SX.fixB, SX.rootIx, SX.Froz, SX.frzStep, SX.fork, Go.Value.cells, Go.undef, cfg29, hlt', hm, hqh, hrx, hry, hhn, hqn]
        refine ⟨by (unfold SX.Ob; first | trivial | omega | ((try simp only [SX.inK]); (try simp [SX.den, SX.IsU8, SX.AllP, *]); (try omega))), ?_⟩
        intro a5 w5 hr5 ht5
        refine post_callD 17 [.ag [.v (.int .i64 x.at_), .v (.int .i64 x.lba), .v (.bool x.rd), .v (.int .i64 x.ver), .v (.int .u8 x.by_)], .ag [.v (.int .i64 y.at_), .v (.int .i64 y.lba), .v (.bool y.rd), .v (.int .i64 y.ver), .v (.int .u8 y.by_)]] hr5 rfl (by first | exact wanted_none rfl | exact wanted_zero (hr5.env.same rfl rfl rfl rfl) rfl (by simp)) rfl (callable 17 Try.func17) (hc w5 (KeepsTo.more hw hr5.keeps) x y (hx ▸ hV q hqn) (hy ▸ hV h hhn)) ?_
        rintro e6 w6 ⟨⟨r, rfl, hrr⟩, hb6⟩
        have ht6 := HpRep_below ht5 hb6
        refine ⟨_, rfl, ht6, ?_⟩
        have h6 := hr5.ret hb6 169 (.v (.int .i64 r)) rfl _ (hr5.all.below hb6) (by simp) rfl
        by_cases hr0 : r < 0
        · have hlt2 : key x < key y := hrr.1 hr0
          refine seg cfg29_ok mixed PanicFree.body 1000 [false] [] h6 (by first | trivial | exact HpRep.nil | assumption) (by kernel_rfl) fun s_ hs_ => ?_
          simp (maxSteps := 10000000) [SX.vc, SX.stop, SX.contS, SX.contB, SX.contW, SX.contR, SX.contD, SX.sxStep, SX.stepPure, SX.stepNew, SX.stepStore, SX.stepKeep, SX.guardIx, SX.evOp, SX.opd, SX.opds, SX.optOpd, SX.look, SX.putS, SX.gobs, SX.AllP, SX.leave, SX.lookC, SX.lookB, SX.lookT, SX.lookN, SX.findK, SX.evBuiltin, SX.ints, SX.foldI, SX.evBin, SX.evInt, SX.evStr, SX.evEq, SX.arith, SX.evLoad, SX.shapeUp, SX.evFieldAddr, SX.evField, SX.evIndexAddr, SX.evIndex, SX.evFill, SX.evBuild, SX.szs, SX.cellsV, SX.evNew, SX.evStore, SX.spliceL, SX.SV.cells, SX.evConv, SX.evSlice, SX.bnd, SX.evNil, SX.evUn, SX.evPick, SX.pickOpd, SX.popTo, SX.cnd, SX.env0, SX.TD.isAgg, SX.TD.isIface, SX.tails, SX.NotAgg, SX.evLookup, SX.evConvH, SX.evPtrEq, SX.isCells, SX.thaw, SX.frz, SX.fixB, SX.rootIx, SX.Froz, SX.frzStep, SX.fork, Go.Value.cells, Go.undef, cfg29, hr0]
          refine ⟨by (unfold SX.Ob; first | trivial | omega | ((try simp only [SX.inK]); (try simp [SX.den, SX.IsU8, SX.AllP, *]); (try omega))), ?_⟩
          intro a7 w7 hr7 _
          exact post_rnd (h - lo) (by omega) ⟨lo, h, rfl, hl1, by omega, by omega, hk1, .inr (by rw [hgq, hy]; exact hlt2), hr7.re (by simp [envTo, SX.look, den]) hr7.all rfl rfl⟩
        · have hge : key y ≤ key x := by
            have h := mt hrr.2 hr0
            omega
          refine seg cfg29_ok mixed PanicFree.body 1000 [true] [] h6 (by first | trivial | exact HpRep.nil | assumption) (by kernel_rfl) fun s_ hs_ => ?_
          simp (maxSteps := 10000000) [SX.vc, SX.stop, SX.contS, SX.contB, SX.contW, SX.contR, SX.contD, SX.sxStep, SX.stepPure, SX.stepNew, SX.stepStore, SX.stepKeep, SX.guardIx, SX.evOp, SX.opd, SX.opds, SX.optOpd, SX.look, SX.putS, SX.gobs, SX.AllP, SX.leave, SX.lookC, SX.lookB, SX.lookT, SX.lookN, SX.findK, SX.evBuiltin, SX.ints, SX.foldI, SX.evBin, SX.evInt, SX.evStr, SX.evEq, SX.arith, SX.evLoad, SX.shapeUp, SX.evFieldAddr, SX.evField, SX.evIndexAddr, SX.evIndex, SX.evFill, SX.evBuild, SX.szs, SX.cellsV, SX.evNew, SX.evStore, SX.spliceL, SX.SV.cells, SX.evConv, SX.evSlice, SX.bnd, SX.evNil, SX.evUn, SX.evPick, SX.pickOpd, SX.popTo, SX.cnd, SX.env0, SX.TD.isAgg, SX.TD.isIface, SX.tails, SX.NotAgg, SX.evLookup, SX.evConvH, SX.evPtrEq, SX.isCells, SX.thaw, SX.frz, SX.fixB, SX.rootIx, SX.Froz, SX.frzStep, SX.fork, Go.Value.cells, Go.undef, cfg29, hr0]
          refine ⟨by (unfold SX.Ob; first | trivial | omega | ((try simp only [SX.inK]); (try simp [SX.den, SX.IsU8, SX.AllP, *]); (try omega))), ?_⟩
          intro a7 w7 hr7 _
          exact post_rnd (hi - (h + 1)) (by omega) ⟨h + 1, hi, rfl, by omega, by omega, hl3, .inr (by rw [Nat.add_sub_cancel, hgq, hy]; exact hge), hk2, hr7.re (by simp [envTo, SX.look, den]) hr7.all rfl rfl⟩
      obtain rfl : lo = hi := by omega
      have hlt' : ¬ (lo : Int) < (lo : Int) := by omega
      obtain ⟨e0, he0⟩ : ∃ e0, n0 = e0 + lo := ⟨n0 - lo, by omega⟩
      have hne : (n0 : Int) - (lo : Int) = (e0 : Int) := by omega
      have hF1 : lo = a0 ∨ e0 = b0 ∨ key (g (lo - 1)) ≤ key (g e0) := by
        rcases hk1 with h5 | h5
        · omega
        · by_cases hla : lo = a0
          · exact .inl hla
          · rw [show p0 - (lo - 1) = e0 by omega] at h5
            exact .inr (.inr h5)
      have hF2 : lo = m0 ∨ e0 = m0 ∨ key (g (e0 - 1)) < key (g lo) := by
        rcases hk2 with h5 | h5
        · omega
        · rw [show p0 - lo = e0 - 1 by omega] at h5
          exact .inr (.inr h5)
      have hle1 : a0 ≤ lo := by omega
      have hle2 : lo ≤ m0 := by omega
      have hle3 : m0 ≤ e0 := by omega
      have hle4 : e0 ≤ b0 := by omega
      have hmde : md = lo + (e0 - m0) := by omega
      clear he0
      refine seg cfg29_ok mixed PanicFree.body 17 [false] [] hr2 (by first | trivial | exact HpRep.nil | assumption) (by kernel_rfl) fun s_ hs_ => ?_
      simp (maxSteps := 10000000) [SX.vc, SX.stop, SX.contS, SX.contB, SX.contW, SX.contR, SX.contD, SX.sxStep, SX.stepPure, SX.stepNew, SX.stepStore, SX.stepKeep, SX.guardIx, SX.evOp, SX.opd, SX.opds, SX.optOpd, SX.look, SX.putS, SX.gobs, SX.AllP, SX.leave, SX.lookC, SX.lookB, SX.lookT, SX.lookN, SX.findK, SX.evBuiltin, SX.ints, SX.foldI, SX.evBin, SX.evInt, SX.evStr, SX.evEq, SX.arith, SX.evLoad, SX.shapeUp, SX.evFieldAddr, SX.evField, SX.evIndexAddr, SX.evIndex, SX.evFill, SX.evBuild, SX.szs, SX.cellsV, SX.evNew, SX.evStore, SX.spliceL, SX.SV.cells, SX.evConv, SX.evSlice, SX.bnd, SX.evNil, SX.evUn, SX.evPick, SX.pickOpd, SX.popTo, SX.cnd, SX.env0, SX.TD.isAgg, SX.TD.isIface, SX.tails, SX.NotAgg, SX.evLookup, SX.evConvH, SX.evPtrEq, SX.isCells, SX.thaw, SX.frz, SX.fixB, SX.rootIx, SX.Froz, SX.frzStep, SX.fork, Go.Value.cells, Go.undef, cfg29, hlt', hne]
      refine ⟨by (unfold SX.Ob; first | trivial | omega | ((try simp only [SX.inK]); (try simp [SX.den, SX.IsU8, SX.AllP, *]); (try omega))), ?_⟩
      intro a3 w3 hr3 _
      refine post_cut (SyJ w b N u n cap c a0 m0 b0 md lo e0 (fun G => G = rot g lo m0 e0)) 1 rfl ?_ fun a4 w4 hJ => ?_
      · by_cases c3 : lo < m0
        · have c3' : (lo : Int) < (m0 : Int) := by omega
          by_cases c4 : m0 < e0
          · have c4' : (m0 : Int) < (e0 : Int) := by omega
            refine seg cfg29_ok mixed PanicFree.body 1000 [true] [(181, true)] hr3 (by first | trivial | exact HpRep.nil | assumption) (by kernel_rfl) fun s_ hs_ => ?_
            simp (maxSteps := 10000000) [SX.vc, SX.stop, SX.contS, SX.contB, SX.contW, SX.contR, SX.contD, SX.sxStep, SX.stepPure, SX.stepNew, SX.stepStore, SX.stepKeep, SX.guardIx, SX.evOp, SX.opd, SX.opds, SX.optOpd, SX.look, SX.putS, SX.gobs, SX.AllP, SX.leave, SX.lookC, SX.lookB, SX.lookT, SX.lookN, SX.findK, SX.evBuiltin, SX.ints, SX.foldI, SX.evBin, SX.evInt, SX.evStr, SX.evEq, SX.arith, SX.evLoad, SX.shapeUp, SX.evFieldAddr, SX.evField, SX.evIndexAddr, SX.evIndex, SX.evFill, SX.evBuild, SX.szs, SX.cellsV, SX.evNew, SX.evStore, SX.spliceL, SX.SV.cells, SX.evConv, SX.evSlice, SX.bnd, SX.evNil, SX.evUn, SX.evPick, SX.pickOpd, SX.popTo, SX.cnd, SX.env0, SX.TD.isAgg, SX.TD.isIface, SX.tails, SX.NotAgg, SX.evLookup, SX.evConvH, SX.evPtrEq, SX.isCells, SX.thaw, SX.frz, SX.fixB, SX.rootIx, SX.Froz, SX.frzStep, SX.fork, Go.Value.cells, Go.undef, cfg29, c3', c4']
            refine ⟨by (unfold SX.Ob; first | trivial | omega | ((try simp only [SX.inK]); (try simp [SX.den, SX.IsU8, SX.AllP, *]); (try omega))), ?_⟩
            intro a4 w4 hr4 _
            have hD4 : DatF w4 b N u n g := ⟨hN, row0, hr4.all.1.1, hrow0⟩
            refine post_call 33 [.sl 0 b 0 0 n cap 5, .v (.int .i64 lo), .v (.int .i64 m0), .v (.int .i64 e0), .fn (.func 17) [] []] hr4 (wanted_none rfl) rfl (callable 33 Try.func33) (rot_ok w4 b N u n cap c lo m0 e0 g hD4 hn c3 c4 (by omega)) ?_
            rintro e5 w5 ⟨rfl, ⟨g5, ⟨hN5, row5, hrep5, hrow5⟩, hg5⟩, hk5⟩
            refine ⟨_, rfl, ?_⟩
            have h5 := hr4.retK hk5 (fun x hx => .inr hx) 191 (.tu []) rfl [(b, true, .arr 0 N row5 5 u (0, 0))] ⟨⟨hrep5, fun _ => .inr (by simp), by simp⟩, trivial⟩ (by simp) rfl
            refine seg cfg29_ok mixed PanicFree.body 1000 [] [] h5 (by first | trivial | exact HpRep.nil | assumption) (by kernel_rfl) fun s_ hs_ => ?_
            simp (maxSteps := 10000000) [SX.vc, SX.stop, SX.contS, SX.contB, SX.contW, SX.contR, SX.contD, SX.sxStep, SX.stepPure, SX.stepNew, SX.stepStore, SX.stepKeep, SX.guardIx, SX.evOp, SX.opd, SX.opds, SX.optOpd, SX.look, SX.putS, SX.gobs, SX.AllP, SX.leave, SX.lookC, SX.lookB, SX.lookT, SX.lookN, SX.findK, SX.evBuiltin, SX.ints, SX.foldI, SX.evBin, SX.evInt, SX.evStr, SX.evEq, SX.arith, SX.evLoad, SX.shapeUp, SX.evFieldAddr, SX.evField, SX.evIndexAddr, SX.evIndex, SX.evFill, SX.evBuild, SX.szs, SX.cellsV, SX.evNew, SX.evStore, SX.spliceL, SX.SV.cells, SX.evConv, SX.evSlice, SX.bnd, SX.evNil, SX.evUn, SX.evPick, SX.pickOpd, SX.popTo, SX.cnd, SX.env0, SX.TD.isAgg, SX.TD.isIface, SX.tails, SX.NotAgg, SX.evLookup, SX.evConvH, SX.evPtrEq, SX.isCells, SX.thaw, SX.frz, SX.fixB, SX.rootIx, SX.Froz, SX.frzStep, SX.fork, Go.Value.cells, Go.undef, cfg29]
            refine ⟨by (unfold SX.Ob; first | trivial | omega | ((try simp only [SX.inK]); (try simp [SX.den, SX.IsU8, SX.AllP, *]); (try omega))), ?_⟩
            intro a6 w6 hr6 _
            exact post_inv ⟨g5, row5, hg5, hrow5, hr6.re (by simp [envTo, SX.look, den]) hr6.all rfl rfl⟩
          · have c4' : ¬ (m0 : Int) < (e0 : Int) := by omega
            refine seg cfg29_ok mixed PanicFree.body 1000 [false] [(181, true)] hr3 (by first | trivial | exact HpRep.nil | assumption) (by kernel_rfl) fun s_ hs_ => ?_
            simp (maxSteps := 10000000) [SX.vc, SX.stop, SX.contS, SX.contB, SX.contW, SX.contR, SX.contD, SX.sxStep, SX.stepPure, SX.stepNew, SX.stepStore, SX.stepKeep, SX.guardIx, SX.evOp, SX.opd, SX.opds, SX.optOpd, SX.look, SX.putS, SX.gobs, SX.AllP, SX.leave, SX.lookC, SX.lookB, SX.lookT, SX.lookN, SX.findK, SX.evBuiltin, SX.ints, SX.foldI, SX.evBin, SX.evInt, SX.evStr, SX.evEq, SX.arith, SX.evLoad, SX.shapeUp, SX.evFieldAddr, SX.evField, SX.evIndexAddr, SX.evIndex, SX.evFill, SX.evBuild, SX.szs, SX.cellsV, SX.evNew, SX.evStore, SX.spliceL, SX.SV.cells, SX.evConv, SX.evSlice, SX.bnd, SX.evNil, SX.evUn, SX.evPick, SX.pickOpd, SX.popTo, SX.cnd, SX.env0, SX.TD.isAgg, SX.TD.isIface, SX.tails, SX.NotAgg, SX.evLookup, SX.evConvH, SX.evPtrEq, SX.isCells, SX.thaw, SX.frz, SX.fixB, SX.rootIx, SX.Froz, SX.frzStep, SX.fork, Go.Value.cells, Go.undef, cfg29, c3', c4']
            refine ⟨by (unfold SX.Ob; first | trivial | omega | ((try simp only [SX.inK]); (try simp [SX.den, SX.IsU8, SX.AllP, *]); (try omega))), ?_⟩
            intro a4 w4 hr4 _
            exact post_inv ⟨g, row0, by rw [show e0 = m0 by omega, rot_id2 hle2], hrow0, hr4.re (by simp [envTo, SX.look, den]) hr4.all rfl rfl⟩
        · have c3' : ¬ (lo : Int) < (m0 : Int) := by omega
          refine seg cfg29_ok mixed PanicFree.body 1000 [false] [(181, false)] hr3 (by first | trivial | exact HpRep.nil | assumption) (by kernel_rfl) fun s_ hs_ => ?_
          simp (maxSteps := 10000000) [SX.vc, SX.stop, SX.contS, SX.contB, SX.contW, SX.contR, SX.contD, SX.sxStep, SX.stepPure, SX.stepNew, SX.stepStore, SX.stepKeep, SX.guardIx, SX.evOp, SX.opd, SX.opds, SX.optOpd, SX.look, SX.putS, SX.gobs, SX.AllP, SX.leave, SX.lookC, SX.lookB, SX.lookT, SX.lookN, SX.findK, SX.evBuiltin, SX.ints, SX.foldI, SX.evBin, SX.evInt, SX.evStr, SX.evEq, SX.arith, SX.evLoad, SX.shapeUp, SX.evFieldAddr, SX.evField, SX.evIndexAddr, SX.evIndex, SX.evFill, SX.evBuild, SX.szs, SX.cellsV, SX.evNew, SX.evStore, SX.spliceL, SX.SV.cells, SX.evConv, SX.evSlice, SX.bnd, SX.evNil, SX.evUn, SX.evPick, SX.pickOpd, SX.popTo, SX.cnd, SX.env0, SX.TD.isAgg, SX.TD.isIface, SX.tails, SX.NotAgg, SX.evLookup, SX.evConvH, SX.evPtrEq, SX.isCells, SX.thaw, SX.frz, SX.fixB, SX.rootIx, SX.Froz, SX.frzStep, SX.fork, Go.Value.cells, Go.undef, cfg29, c3']
          refine ⟨by (unfold SX.Ob; first | trivial | omega | ((try simp only [SX.inK]); (try simp [SX.den, SX.IsU8, SX.AllP, *]); (try omega))), ?_⟩
          intro a4 w4 hr4 _
          exact post_inv ⟨g, row0, by rw [show lo = m0 by omega, rot_id1], hrow0, hr4.re (by simp [envTo, SX.look, den]) hr4.all rfl rfl⟩
      clear hr hr1 hr2 hr3
      obtain ⟨G1, row1, hG1, hrow1, hr4⟩ := hJ
      have hcr := cross hle1 hle2 hle3 hle4 hA hB hF1 hF2
      have hS1 := cross_rot hle1 hle2 hle3 hle4 hA hB hF2
      rw [← hG1, ← hmde] at hcr
      rw [← hG1] at hS1
      have hVs : ∀ G, SameF key a0 b0 g G → ∀ j, j < n → V (G j) := fun G hS j hj => by
        by_cases hj2 : a0 ≤ j ∧ j < b0
        · obtain ⟨q, q1, q2, q3⟩ := hS.mem hj2.1 hj2.2
          rw [← q3]; exact hV q (by omega)
        · rw [hS.1 j (by omega)]; exact hV j hj
      have hA1 : SortF key a0 lo G1 := fun i j hi hij hj => by
        rw [hG1, rot_out hle2 hle3 (.inl (by omega)), rot_out hle2 hle3 (.inl hj)]
        exact hA i j hi hij (by omega)
      have hB1 : SortF key lo md G1 := fun i j hi hij hj => by
        rw [hG1, rot_left hi (by omega), rot_left (by omega) (by omega)]
        exact hB _ _ (by omega) (by omega) (by omega)
      have hA2 : SortF key md e0 G1 := fun i j hi hij hj => by
        rw [hG1, rot_right (by omega) (by omega), rot_right (by omega) hj]
        exact hA _ _ (by omega) (by omega) (by omega)
      have hB2 : SortF key e0 b0 G1 := fun i j hi hij hj => by
        rw [hG1, rot_out hle2 hle3 (.inr hi), rot_out hle2 hle3 (.inr (by omega))]
        exact hB i j (by omega) hij hj
      refine seg cfg29_ok mixed PanicFree.body 1 [] [] hr4 (by first | trivial | exact HpRep.nil | assumption) (by kernel_rfl) fun s_ hs_ => ?_
      simp (maxSteps := 10000000) [SX.vc, SX.stop, SX.contS, SX.contB, SX.contW, SX.contR, SX.contD, SX.sxStep, SX.stepPure, SX.stepNew, SX.stepStore, SX.stepKeep, SX.guardIx, SX.evOp, SX.opd, SX.opds, SX.optOpd, SX.look, SX.putS, SX.gobs, SX.AllP, SX.leave, SX.lookC, SX.lookB, SX.lookT, SX.lookN, SX.findK, SX.evBuiltin, SX.ints, SX.foldI, SX.evBin, SX.evInt, SX.evStr, SX.evEq, SX.arith, SX.evLoad, SX.shapeUp, SX.evFieldAddr, SX.evField, SX.evIndexAddr, SX.evIndex, SX.evFill, SX.evBuild, SX.szs, SX.cellsV, SX.evNew, SX.evStore, SX.spliceL, SX.SV.cells, SX.evConv, SX.evSlice, SX.bnd, SX.evNil, SX.evUn, SX.evPick, SX.pickOpd, SX.popTo, SX.cnd, SX.env0, SX.TD.isAgg, SX.TD.isIface, SX.tails, SX.NotAgg, SX.evLookup, SX.evConvH, SX.evPtrEq, SX.isCells, SX.thaw, SX.frz, SX.fixB, SX.rootIx, SX.Froz, SX.frzStep, SX.fork, Go.Value.cells, Go.undef, cfg29]
      refine ⟨by (unfold SX.Ob; first | trivial | omega | ((try simp only [SX.inK]); (try simp [SX.den, SX.IsU8, SX.AllP, *]); (try omega))), ?_⟩
      intro a5 w5 hr5 _
      refine post_cut (SyJ w b N u n cap c a0 m0 b0 md lo e0 (fun G => SameF key a0 md G1 G ∧ SortF key a0 md G)) 1 rfl ?_ fun a6 w6 hJ => ?_
      · by_cases c3 : a0 < lo
        · have c3' : (a0 : Int) < (lo : Int) := by omega
          by_cases c4 : lo < md
          · have c4' : (lo : Int) < (md : Int) := by omega
            refine seg cfg29_ok mixed PanicFree.body 1000 [true] [(195, true)] hr5 (by first | trivial | exact HpRep.nil | assumption) (by kernel_rfl) fun s_ hs_ => ?_
            simp (maxSteps := 10000000) [SX.vc, SX.stop, SX.contS, SX.contB, SX.contW, SX.contR, SX.contD, SX.sxStep, SX.stepPure, SX.stepNew, SX.stepStore, SX.stepKeep, SX.guardIx, SX.evOp, SX.opd, SX.opds, SX.optOpd, SX.look, SX.putS, SX.gobs, SX.AllP, SX.leave, SX.lookC, SX.lookB, SX.lookT, SX.lookN, SX.findK, SX.evBuiltin, SX.ints, SX.foldI, SX.evBin, SX.evInt, SX.evStr, SX.evEq, SX.arith, SX.evLoad, SX.shapeUp, SX.evFieldAddr, SX.evField, SX.evIndexAddr, SX.evIndex, SX.evFill, SX.evBuild, SX.szs, SX.cellsV, SX.evNew, SX.evStore, SX.spliceL, SX.SV.cells, SX.evConv, SX.evSlice, SX.bnd, SX.evNil, SX.evUn, SX.evPick, SX.pickOpd, SX.popTo, SX.cnd, SX.env0, SX.TD.isAgg, SX.TD.isIface, SX.tails, SX.NotAgg, SX.evLookup, SX.evConvH, SX.evPtrEq, SX.isCells, SX.thaw, SX.frz, SX.fixB, SX.rootIx, SX.Froz, SX.frzStep, SX.fork, Go.Value.cells, Go.undef, cfg29, c3', c4']
            refine ⟨by (unfold SX.Ob; first | trivial | omega | ((try simp only [SX.inK]); (try simp [SX.den, SX.IsU8, SX.AllP, *]); (try omega))), ?_⟩
            intro a6 w6 hr6 _
            have hD6 : DatF w6 b N u n G1 := ⟨hN, row1, hr6.all.1.1, hrow1⟩
            refine post_call 29 [.sl 0 b 0 0 n cap 5, .v (.int .i64 a0), .v (.int .i64 lo), .v (.int .i64 md), .fn (.func 17) [] []] hr6 (wanted_none rfl) rfl (callable 29 Try.func29) (IH w0 w6 b N u n cap c a0 lo md key V G1 hc (KeepsTo.more hw hr6.keeps) hD6 hn c3 c4 (by omega) (hVs G1 hS1) hA1 hB1 (by omega)) ?_
            rintro e7 w7 ⟨rfl, ⟨g7, ⟨hN7, row7, hrep7, hrow7⟩, hg7⟩, hk7⟩
            refine ⟨_, rfl, ?_⟩
            have h7 := hr6.retK hk7 (fun x hx => .inr hx) 205 (.tu []) rfl [(b, true, .arr 0 N row7 5 u (0, 0))] ⟨⟨hrep7, fun _ => .inr (by simp), by simp⟩, trivial⟩ (by simp) rfl
            refine seg cfg29_ok mixed PanicFree.body 1000 [] [] h7 (by first | trivial | exact HpRep.nil | assumption) (by kernel_rfl) fun s_ hs_ => ?_
            simp (maxSteps := 10000000) [SX.vc, SX.stop, SX.contS, SX.contB, SX.contW, SX.contR, SX.contD, SX.sxStep, SX.stepPure, SX.stepNew, SX.stepStore, SX.stepKeep, SX.guardIx, SX.evOp, SX.opd, SX.opds, SX.optOpd, SX.look, SX.putS, SX.gobs, SX.AllP, SX.leave, SX.lookC, SX.lookB, SX.lookT, SX.lookN, SX.findK, SX.evBuiltin, SX.ints, SX.foldI, SX.evBin, SX.evInt, SX.evStr, SX.evEq, SX.arith, SX.evLoad, SX.shapeUp, SX.evFieldAddr, SX.evField, SX.evIndexAddr, SX.evIndex, SX.evFill, SX.evBuild, SX.szs, SX.cellsV, SX.evNew, SX.evStore, SX.spliceL, SX.SV.cells, SX.evConv, SX.evSlice, SX.bnd, SX.evNil, SX.evUn, SX.evPick, SX.pickOpd, SX.popTo, SX.cnd, SX.env0, SX.TD.isAgg, SX.TD.isIface, SX.tails, SX.NotAgg, SX.evLookup, SX.evConvH, SX.evPtrEq, SX.isCells, SX.thaw, SX.frz, SX.fixB, SX.rootIx, SX.Froz, SX.frzStep, SX.fork, Go.Value.cells, Go.undef, cfg29]
            refine ⟨by (unfold SX.Ob; first | trivial | omega | ((try simp only [SX.inK]); (try simp [SX.den, SX.IsU8, SX.AllP, *]); (try omega))), ?_⟩
            intro a8 w8 hr8 _
            exact post_inv ⟨g7, row7, hg7, hrow7, hr8.re (by simp [envTo, SX.look, den]) hr8.all rfl rfl⟩
          · have c4' : ¬ (lo : Int) < (md : Int) := by omega
            refine seg cfg29_ok mixed PanicFree.body 1000 [false] [(195, true)] hr5 (by first | trivial | exact HpRep.nil | assumption) (by kernel_rfl) fun s_ hs_ => ?_
            simp (maxSteps := 10000000) [SX.vc, SX.stop, SX.contS, SX.contB, SX.contW, SX.contR, SX.contD, SX.sxStep, SX.stepPure, SX.stepNew, SX.stepStore, SX.stepKeep, SX.guardIx, SX.evOp, SX.opd, SX.opds, SX.optOpd, SX.look, SX.putS, SX.gobs, SX.AllP, SX.leave, SX.lookC, SX.lookB, SX.lookT, SX.lookN, SX.findK, SX.evBuiltin, SX.ints, SX.foldI, SX.evBin, SX.evInt, SX.evStr, SX.evEq, SX.arith, SX.evLoad, SX.shapeUp, SX.evFieldAddr, SX.evField, SX.evIndexAddr, SX.evIndex, SX.evFill, SX.evBuild, SX.szs, SX.cellsV, SX.evNew, SX.evStore, SX.spliceL, SX.SV.cells, SX.evConv, SX.evSlice, SX.bnd, SX.evNil, SX.evUn, SX.evPick, SX.pickOpd, SX.popTo, SX.cnd, SX.env0, SX.TD.isAgg, SX.TD.isIface, SX.tails, SX.NotAgg, SX.evLookup, SX.evConvH, SX.evPtrEq, SX.isCells, SX.thaw, SX.frz, SX.fixB, SX.rootIx, SX.Froz, SX.frzStep, SX.fork, Go.Value.cells, Go.undef, cfg29, c3', c4']
            refine ⟨by (unfold SX.Ob; first | trivial | omega | ((try simp only [SX.inK]); (try simp [SX.den, SX.IsU8, SX.AllP, *]); (try omega))), ?_⟩
            intro a6 w6 hr6 _
            exact post_inv ⟨G1, row1, ⟨SameF.refl key a0 md G1, by rw [show md = lo by omega]; exact hA1⟩, hrow1, hr6.re (by simp [envTo, SX.look, den]) hr6.all rfl rfl⟩
        · have c3' : ¬ (a0 : Int) < (lo : Int) := by omega
          refine seg cfg29_ok mixed PanicFree.body 1000 [false] [(195, false)] hr5 (by first | trivial | exact HpRep.nil | assumption) (by kernel_rfl) fun s_ hs_ => ?_
          simp (maxSteps := 10000000) [SX.vc, SX.stop, SX.contS, SX.contB, SX.contW, SX.contR, SX.contD, SX.sxStep, SX.stepPure, SX.stepNew, SX.stepStore, SX.stepKeep, SX.guardIx, SX.evOp, SX.opd, SX.opds, SX.optOpd, SX.look, SX.putS, SX.gobs, SX.AllP, SX.leave, SX.lookC, SX.lookB, SX.lookT, SX.lookN, SX.findK, SX.evBuiltin, SX.ints, SX.foldI, SX.evBin, SX.evInt, SX.evStr, SX.evEq, SX.arith, SX.evLoad, SX.shapeUp, SX.evFieldAddr, SX.evField, SX.evIndexAddr, SX.evIndex, SX.evFill, SX.evBuild, SX.szs, SX.cellsV, SX.evNew, SX.evStore, SX.spliceL, SX.SV.cells, SX.evConv, SX.evSlice, SX.bnd, SX.evNil, SX.evUn, SX.evPick, SX.pickOpd, SX.popTo, SX.cnd, SX.env0, SX.TD.isAgg, SX.TD.isIface, SX.tails, SX.NotAgg, SX.evLookup, SX.evConvH, SX.evPtrEq, SX.isCells, SX.thaw, SX.frz, SX.fixB, SX.rootIx, SX.Froz, SX.frzStep, SX.fork, Go.Value.cells, Go.undef, cfg29, c3']
          refine ⟨by (unfold SX.Ob; first | trivial | omega | ((try simp only [SX.inK]); (try simp [SX.den, SX.IsU8, SX.AllP, *]); (try omega))), ?_⟩
          intro a6 w6 hr6 _
          exact post_inv ⟨G1, row1, ⟨SameF.refl key a0 md G1, by rw [show a0 = lo by omega]; exact hB1⟩, hrow1, hr6.re (by simp [envTo, SX.look, den]) hr6.all rfl rfl⟩
      clear hr4 hr5
      obtain ⟨G2, row2, ⟨hS2, hT2⟩, hrow2, hr6⟩ := hJ
      have hA3 : SortF key md e0 G2 := fun i j hi hij hj => by
        rw [hS2.1 i (.inr hi), hS2.1 j (.inr (by omega))]
        exact hA2 i j hi hij hj
      have hB3 : SortF key e0 b0 G2 := fun i j hi hij hj => by
        rw [hS2.1 i (.inr (by omega)), hS2.1 j (.inr (by omega))]
        exact hB2 i j hi hij hj
      have hS12 := hS1.trans (hS2.wide (Nat.le_refl _) (by omega) (show md ≤ b0 by omega))
      have fin : ∀ G3, SameF key md b0 G2 G3 → SortF key md b0 G3 → SameF key a0 b0 g G3 ∧ SortF key a0 b0 G3 := fun G3 hS3 hT3 => by
        obtain ⟨f1, f2⟩ := halves (show a0 ≤ md by omega) (show md ≤ b0 by omega) hcr hS2 hT2 hS3 hT3
        exact ⟨hS1.trans f1, f2⟩
      by_cases c3 : md < e0
      · have c3' : (md : Int) < (e0 : Int) := by omega
        by_cases c4 : e0 < b0
        · have c4' : (e0 : Int) < (b0 : Int) := by omega
          refine seg cfg29_ok mixed PanicFree.body 1000 [true] [(209, true)] hr6 (by first | trivial | exact HpRep.nil | assumption) (by kernel_rfl) fun s_ hs_ => ?_
          simp (maxSteps := 10000000) [SX.vc, SX.stop, SX.contS, SX.contB, SX.contW, SX.contR, SX.contD, SX.sxStep, SX.stepPure, SX.stepNew, SX.stepStore, SX.stepKeep, SX.guardIx, SX.evOp, SX.opd, SX.opds, SX.optOpd, SX.look, SX.putS, SX.gobs, SX.AllP, SX.leave, SX.lookC, SX.lookB, SX.lookT, SX.lookN, SX.findK, SX.evBuiltin, SX.ints, SX.foldI, SX.evBin, SX.evInt, SX.evStr, SX.evEq, SX.arith, SX.evLoad, SX.shapeUp, SX.evFieldAddr, SX.evField, SX.evIndexAddr, SX.evIndex, SX.evFill, SX.evBuild, SX.szs, SX.cellsV, SX.evNew, SX.evStore, SX.spliceL, SX.SV.cells, SX.evConv, SX.evSlice, SX.bnd, SX.evNil, SX.evUn, SX.evPick, SX.pickOpd, SX.popTo, SX.cnd, SX.env0, SX.TD.isAgg, SX.TD.isIface, SX.tails, SX.NotAgg, SX.evLookup, SX.evConvH, SX.evPtrEq, SX.isCells, SX.thaw, SX.frz, SX.fixB, SX.rootIx, SX.Froz, SX.frzStep, SX.fork, Go.Value.cells, Go.undef, cfg29, c3', c4']
          refine ⟨by (unfold SX.Ob; first | trivial | omega | ((try simp only [SX.inK]); (try simp [SX.den, SX.IsU8, SX.AllP, *]); (try omega))), ?_⟩
          intro a7 w7 hr7 _
          have hD7 : DatF w7 b N u n G2 := ⟨hN, row2, hr7.all.1.1, hrow2⟩
          refine post_call 29 [.sl 0 b 0 0 n cap 5, .v (.int .i64 md), .v (.int .i64 e0), .v (.int .i64 b0), .fn (.func 17) [] []] hr7 (wanted_none rfl) rfl (callable 29 Try.func29) (IH w0 w7 b N u n cap c md e0 b0 key V G2 hc (KeepsTo.more hw hr7.keeps) hD7 hn c3 c4 h3 (hVs G2 hS12) hA3 hB3 (by omega)) ?_
          rintro e8 w8 ⟨rfl, ⟨g8, ⟨hN8, row8, hrep8, hrow8⟩, hg8⟩, hk8⟩
          refine ⟨_, rfl, ?_⟩
          have h8 := hr7.retK hk8 (fun x hx => .inr hx) 219 (.tu []) rfl [(b, true, .arr 0 N row8 5 u (0, 0))] ⟨⟨hrep8, fun _ => .inr (by simp), by simp⟩, trivial⟩ (by simp) rfl
          refine seg cfg29_ok mixed PanicFree.body 1000 [] [] h8 (by first | trivial | exact HpRep.nil | assumption) (by kernel_rfl) fun s_ hs_ => ?_
          simp (maxSteps := 10000000) [SX.vc, SX.stop, SX.contS, SX.contB, SX.contW, SX.contR, SX.contD, SX.sxStep, SX.stepPure, SX.stepNew, SX.stepStore, SX.stepKeep, SX.guardIx, SX.evOp, SX.opd, SX.opds, SX.optOpd, SX.look, SX.putS, SX.gobs, SX.AllP, SX.leave, SX.lookC, SX.lookB, SX.lookT, SX.lookN, SX.findK, SX.evBuiltin, SX.ints, SX.foldI, SX.evBin, SX.evInt, SX.evStr, SX.evEq, SX.arith, SX.evLoad, SX.shapeUp, SX.evFieldAddr, SX.evField, SX.evIndexAddr, SX.evIndex, SX.evFill, SX.evBuild, SX.szs, SX.cellsV, SX.evNew, SX.evStore, SX.spliceL, SX.SV.cells, SX.evConv, SX.evSlice, SX.bnd, SX.evNil, SX.evUn, SX.evPick, SX.pickOpd, SX.popTo, SX.cnd, SX.env0, SX.TD.isAgg, SX.TD.isIface, SX.tails, SX.NotAgg, SX.evLookup, SX.evConvH, SX.evPtrEq, SX.isCells, SX.thaw, SX.frz, SX.fixB, SX.rootIx, SX.Froz, SX.frzStep, SX.fork, Go.Value.cells, Go.undef, cfg29]
          refine ⟨by (unfold SX.Ob; first | trivial | omega | ((try simp only [SX.inK]); (try simp [SX.den, SX.IsU8, SX.AllP, *]); (try omega))), ?_⟩
          intro a9 w9 hr9 _
          exact post_nil (end0 hr9 rfl ⟨rfl, ⟨g8, ⟨hN, row8, hr9.all.1.1, hrow8⟩, fin g8 hg8.1 hg8.2⟩, hr9.keeps⟩).2
        · have c4' : ¬ (e0 : Int) < (b0 : Int) := by omega
          refine seg cfg29_ok mixed PanicFree.body 1000 [false] [(209, true)] hr6 (by first | trivial | exact HpRep.nil | assumption) (by kernel_rfl) fun s_ hs_ => ?_
          simp (maxSteps := 10000000) [SX.vc, SX.stop, SX.contS, SX.contB, SX.contW, SX.contR, SX.contD, SX.sxStep, SX.stepPure, SX.stepNew, SX.stepStore, SX.stepKeep, SX.guardIx, SX.evOp, SX.opd, SX.opds, SX.optOpd, SX.look, SX.putS, SX.gobs, SX.AllP, SX.leave, SX.lookC, SX.lookB, SX.lookT, SX.lookN, SX.findK, SX.evBuiltin, SX.ints, SX.foldI, SX.evBin, SX.evInt, SX.evStr, SX.evEq, SX.arith, SX.evLoad, SX.shapeUp, SX.evFieldAddr, SX.evField, SX.evIndexAddr, SX.evIndex, SX.evFill, SX.evBuild, SX.szs, SX.cellsV, SX.evNew, SX.evStore, SX.spliceL, SX.SV.cells, SX.evConv, SX.evSlice, SX.bnd, SX.evNil, SX.evUn, SX.evPick, SX.pickOpd, SX.popTo, SX.cnd, SX.env0, SX.TD.isAgg, SX.TD.isIface, SX.tails, SX.NotAgg, SX.evLookup, SX.evConvH, SX.evPtrEq, SX.isCells, SX.thaw, SX.frz, SX.fixB, SX.rootIx, SX.Froz, SX.frzStep, SX.fork, Go.Value.cells, Go.undef, cfg29, c3', c4']
          refine ⟨by (unfold SX.Ob; first | trivial | omega | ((try simp only [SX.inK]); (try simp [SX.den, SX.IsU8, SX.AllP, *]); (try omega))), ?_⟩
          intro a7 w7 hr7 _
          exact post_nil (end0 hr7 rfl ⟨rfl, ⟨G2, ⟨hN, row2, hr7.all.1.1, hrow2⟩, fin G2 (SameF.refl key md b0 G2) (by rw [show b0 = e0 by omega]; exact hA3)⟩, hr7.keeps⟩).2
      · have c3' : ¬ (md : Int) < (e0 : Int) := by omega
        refine seg cfg29_ok mixed PanicFree.body 1000 [false] [(209, false)] hr6 (by first | trivial | exact HpRep.nil | assumption) (by kernel_rfl) fun s_ hs_ => ?_
        simp (maxSteps := 10000000) [SX.vc, SX.stop, SX.contS, SX.contB, SX.contW, SX.contR, SX.contD, SX.sxStep, SX.stepPure, SX.stepNew, SX.stepStore, SX.stepKeep, SX.guardIx, SX.evOp, SX.opd, SX.opds, SX.optOpd, SX.look, SX.putS, SX.gobs, SX.AllP, SX.leave, SX.lookC, SX.lookB, SX.lookT, SX.lookN, SX.findK, SX.evBuiltin, SX.ints, SX.foldI, SX.evBin, SX.evInt, SX.evStr, SX.evEq, SX.arith, SX.evLoad, SX.shapeUp, SX.evFieldAddr, SX.evField, SX.evIndexAddr, SX.evIndex, SX.evFill, SX.evBuild, SX.szs, SX.cellsV, SX.evNew, SX.evStore, SX.spliceL, SX.SV.cells, SX.evConv, SX.evSlice, SX.bnd, SX.evNil, SX.evUn, SX.evPick, SX.pickOpd, SX.popTo, SX.cnd, SX.env0, SX.TD.isAgg, SX.TD.isIface, SX.tails, SX.NotAgg, SX.evLookup, SX.evConvH, SX.evPtrEq, SX.isCells, SX.thaw, SX.frz, SX.fixB, SX.rootIx, SX.Froz, SX.frzStep, SX.fork, Go.Value.cells, Go.undef, cfg29, c3']
        refine ⟨by (unfold SX.Ob; first | trivial | omega | ((try simp only [SX.inK]); (try simp [SX.den, SX.IsU8, SX.AllP, *]); (try omega))), ?_⟩
        intro a7 w7 hr7 _
        exact post_nil (end0 hr7 rfl ⟨rfl, ⟨G2, ⟨hN, row2, hr7.all.1.1, hrow2⟩, fin G2 (SameF.refl key md b0 G2) (by rw [show md = e0 by omega]; exact hB3)⟩, hr7.keeps⟩).2

    · have hbig : ¬ (md : Int) < (m0 : Int) := by omega
      refine seg cfg29_ok mixed PanicFree.body 1000 [false, false, false] [] hr (by first | trivial | exact HpRep.nil | assumption) (by kernel_rfl) fun s_ hs_ => ?_
      simp (maxSteps := 10000000) [SX.vc, SX.stop, SX.contS, SX.contB, SX.contW, SX.contR, SX.contD, SX.sxStep, SX.stepPure, SX.stepNew, SX.stepStore, SX.stepKeep, SX.guardIx, SX.evOp, SX.opd, SX.opds, SX.optOpd, SX.look, SX.putS, SX.gobs, SX.AllP, SX.leave, SX.lookC, SX.lookB, SX.lookT, SX.lookN, SX.findK, SX.evBuiltin, SX.ints, SX.foldI, SX.evBin, SX.evInt, SX.evStr, SX.evEq, SX.arith, SX.evLoad, SX.shapeUp, SX.evFieldAddr, SX.evField, SX.evIndexAddr, SX.evIndex, SX.evFill, SX.evBuild, SX.szs, SX.cellsV, SX.evNew, SX.evStore, SX.spliceL, SX.SV.cells, SX.evConv, SX.evSlice, SX.bnd, SX.evNil, SX.evUn, SX.evPick, SX.pickOpd, SX.popTo, SX.cnd, SX.env0, SX.TD.isAgg, SX.TD.isIface, SX.tails, SX.NotAgg, SX.evLookup, SX.evConvH, SX.evPtrEq, SX.isCells, SX.thaw, SX.frz, SX.fixB, SX.rootIx, SX.Froz, SX.frzStep, SX.fork, Go.Value.cells, Go.undef, cfg29, Try.f29, hd1, hd2, hm1, hd3, hd4, hn0, hbig, hp0]
      refine ⟨by (unfold SX.Ob; first | trivial | omega | ((try simp only [SX.inK]); (try simp [SX.den, SX.IsU8, SX.AllP, *]); (try omega))), ?_⟩
      intro a1 w1 hr1 _
      refine post_loop (SyC w b N u n cap c a0 m0 b0 md n0 p0 a0 m0 key g row0) (m0 - a0) ⟨a0, m0, rfl, Nat.le_refl _, by omega, Nat.le_refl _, .inl rfl, .inl rfl, hr1.re (by simp [envTo, SX.look]) hr1.all rfl rfl⟩ ?_
      rintro mm a2 w2 ⟨lo, hi, rfl, hl1, hl2, hl3, hk1, hk2, hr2⟩
      by_cases hlt : lo < hi
      · have hlt' : (lo : Int) < (hi : Int) := by omega
        obtain ⟨h, hh⟩ : ∃ h, (lo + hi) / 2 = h := ⟨_, rfl⟩
        have hm := mid_ok lo hi (by omega)
        rw [hh] at hm
        have hb1 : lo ≤ h ∧ h < hi := by omega
        clear hh
        obtain ⟨q, hq⟩ : ∃ q, p0 = q + h := ⟨p0 - h, by omega⟩
        have hqh : (p0 : Int) - (h : Int) = (q : Int) := by omega
        have hhn : h < n := by omega
        have hqn : q < n := by omega
        obtain ⟨x, hx⟩ : ∃ x, g q = x := ⟨_, rfl⟩
        obtain ⟨y, hy⟩ : ∃ y, g h = y := ⟨_, rfl⟩
        have hrx : row0 q = [.v (.int .i64 x.at_), .v (.int .i64 x.lba), .v (.bool x.rd), .v (.int .i64 x.ver), .v (.int .u8 x.by_)] := by rw [hrow0 q hqn, hx]; rfl
        have hry : row0 h = [.v (.int .i64 y.at_), .v (.int .i64 y.lba), .v (.bool y.rd), .v (.int .i64 y.ver), .v (.int .u8 y.by_)] := by rw [hrow0 h hhn, hy]; rfl
        have hgq : g (p0 - h) = x := by rw [show p0 - h = q by omega]; exact hx
        clear hq
        refine seg cfg29_ok mixed PanicFree.body 1000 [true] [] hr2 (by first | trivial | exact HpRep.nil | assumption) (by kernel_rfl) fun s_ hs_ => ?_
        simp (maxSteps := 10000000) [SX.vc, SX.stop, SX.contS, SX.contB, SX.contW, SX.contR, SX.contD, SX.sxStep, SX.stepPure, SX.stepNew, SX.stepStore, SX.stepKeep, SX.guardIx, SX.evOp, SX.opd, SX.opds, SX.optOpd, SX.look, SX.putS, SX.gobs, SX.AllP, SX.leave, SX.lookC, SX.lookB, SX.lookT, SX.lookN, SX.findK, SX.evBuiltin, SX.ints, SX.foldI, SX.evBin, SX.evInt, SX.evStr, SX.evEq, SX.arith, SX.evLoad, SX.shapeUp, SX.evFieldAddr, SX.evField, SX.evIndexAddr, SX.evIndex, SX.evFill, SX.evBuild, SX.szs, SX.cellsV, SX.evNew, SX.evStore, SX.spliceL, SX.SV.cells, SX.evConv, SX.evSlice, SX.bnd, SX.evNil, SX.evUn, SX.evPick, SX.pickOpd, SX.popTo, SX.cnd, SX.env0, SX.TD.isAgg, SX.TD.isIface, SX.tails, SX.NotAgg, SX.evLookup, SX.evConvH, SX.evPtrEq, SX.isCells, SX.thaw, SX.frz, SX.fixB, SX.rootIx, SX.Froz, SX.frzStep, SX.fork, Go.Value.cells, Go.undef, cfg29, hlt', hm, hqh, hrx, hry, hhn, hqn]
        refine ⟨by (unfold SX.Ob; first | trivial | omega | ((try simp only [SX.inK]); (try simp [SX.den, SX.IsU8, SX.AllP, *]); (try omega))), ?_⟩
        intro a5 w5 hr5 ht5
        refine post_callD 17 [.ag [.v (.int .i64 x.at_), .v (.int .i64 x.lba), .v (.bool x.rd), .v (.int .i64 x.ver), .v (.int .u8 x.by_)], .ag [.v (.int .i64 y.at_), .v (.int .i64 y.lba), .v (.bool y.rd), .v (.int .i64 y.ver), .v (.int .u8 y.by_)]] hr5 rfl (by first | exact wanted_none rfl | exact wanted_zero (hr5.env.same rfl rfl rfl rfl) rfl (by simp)) rfl (callable 17 Try.func17) (hc w5 (KeepsTo.more hw hr5.keeps) x y (hx ▸ hV q hqn) (hy ▸ hV h hhn)) ?_
        rintro e6 w6 ⟨⟨r, rfl, hrr⟩, hb6⟩
        have ht6 := HpRep_below ht5 hb6
        refine ⟨_, rfl, ht6, ?_⟩
        have h6 := hr5.ret hb6 169 (.v (.int .i64 r)) rfl _ (hr5.all.below hb6) (by simp) rfl
        by_cases hr0 : r < 0
        · have hlt2 : key x < key y := hrr.1 hr0
          refine seg cfg29_ok mixed PanicFree.body 1000 [false] [] h6 (by first | trivial | exact HpRep.nil | assumption) (by kernel_rfl) fun s_ hs_ => ?_
          simp (maxSteps := 10000000) [SX.vc, SX.stop, SX.contS, SX.contB, SX.contW, SX.contR, SX.contD, SX.sxStep, SX.stepPure, SX.stepNew, SX.stepStore, SX.stepKeep, SX.guardIx, SX.evOp, SX.opd, SX.opds, SX.optOpd, SX.look, SX.putS, SX.gobs, SX.AllP, SX.leave, SX.lookC, SX.lookB, SX.lookT, SX.lookN, SX.findK, SX.evBuiltin, SX.ints, SX.foldI, SX.evBin, SX.evInt, SX.evStr, SX.evEq, SX.arith, SX.evLoad, SX.shapeUp, SX.evFieldAddr, SX.evField, SX.evIndexAddr, SX.evIndex, SX.evFill, SX.evBuild, SX.szs, SX.cellsV, SX.evNew, SX.evStore, SX.spliceL, SX.SV.cells, SX.evConv, SX.evSlice, SX.bnd, SX.evNil, SX.evUn, SX.evPick, SX.pickOpd, SX.popTo, SX.cnd, SX.env0, SX.TD.isAgg, SX.TD.isIface, SX.tails, SX.NotAgg, SX.evLookup, SX.evConvH, SX.evPtrEq, SX.isCells, SX.thaw, SX.frz, SX.fixB, SX.rootIx, SX.Froz, SX.frzStep, SX.fork, Go.Value.cells, Go.undef, cfg29, hr0]
          refine ⟨by (unfold SX.Ob; first | trivial | omega | ((try simp only [SX.inK]); (try simp [SX.den, SX.IsU8, SX.AllP, *]); (try omega))), ?_⟩
          intro a7 w7 hr7 _
          exact post_rnd (h - lo) (by omega) ⟨lo, h, rfl, hl1, by omega, by omega, hk1, .inr (by rw [hgq, hy]; exact hlt2), hr7.re (by simp [envTo, SX.look, den]) hr7.all rfl rfl⟩
        · have hge : key y ≤ key x := by
            have h := mt hrr.2 hr0
            omega
          refine seg cfg29_ok mixed PanicFree.body 1000 [true] [] h6 (by first | trivial | exact HpRep.nil | assumption) (by kernel_rfl) fun s_ hs_ => ?_
          simp (maxSteps := 10000000) [SX.vc, SX.stop, SX.contS, SX.contB, SX.contW, SX.contR, SX.contD, SX.sxStep, SX.stepPure, SX.stepNew, SX.stepStore, SX.stepKeep, SX.guardIx, SX.evOp, SX.opd, SX.opds, SX.optOpd, SX.look, SX.putS, SX.gobs, SX.AllP, SX.leave, SX.lookC, SX.lookB, SX.lookT, SX.lookN, SX.findK, SX.evBuiltin, SX.ints, SX.foldI, SX.evBin, SX.evInt, SX.evStr, SX.evEq, SX.arith, SX.evLoad, SX.shapeUp, SX.evFieldAddr, SX.evField, SX.evIndexAddr, SX.evIndex, SX.evFill, SX.evBuild, SX.szs, SX.cellsV, SX.evNew, SX.evStore, SX.spliceL, SX.SV.cells, SX.evConv, SX.evSlice, SX.bnd, SX.evNil, SX.evUn, SX.evPick, SX.pickOpd, SX.popTo, SX.cnd, SX.env0, SX.TD.isAgg, SX.TD.isIface, SX.tails, SX.NotAgg, SX.evLookup, SX.evConvH, SX.evPtrEq, SX.isCells, SX.thaw, SX.frz, SX.fixB, SX.rootIx, SX.Froz, SX.frzStep, SX.fork, Go.Value.cells, Go.undef, cfg29, hr0]
          refine ⟨by (unfold SX.Ob; first | trivial | omega | ((try simp only [SX.inK]); (try simp [SX.den, SX.IsU8, SX.AllP, *]); (try omega))), ?_⟩
          intro a7 w7 hr7 _
          exact post_rnd (hi - (h + 1)) (by omega) ⟨h + 1, hi, rfl, by omega, by omega, hl3, .inr (by rw [Nat.add_sub_cancel, hgq, hy]; exact hge), hk2, hr7.re (by simp [envTo, SX.look, den]) hr7.all rfl rfl⟩
      obtain rfl : lo = hi := by omega
      have hlt' : ¬ (lo : Int) < (lo : Int) := by omega
      obtain ⟨e0, he0⟩ : ∃ e0, n0 = e0 + lo := ⟨n0 - lo, by omega⟩
      have hne : (n0 : Int) - (lo : Int) = (e0 : Int) := by omega
      have hF1 : lo = a0 ∨ e0 = b0 ∨ key (g (lo - 1)) ≤ key (g e0) := by
        rcases hk1 with h5 | h5
        · omega
        · by_cases hla : lo = a0
          · exact .inl hla
          · rw [show p0 - (lo - 1) = e0 by omega] at h5
            exact .inr (.inr h5)
      have hF2 : lo = m0 ∨ e0 = m0 ∨ key (g (e0 - 1)) < key (g lo) := by
        rcases hk2 with h5 | h5
        · omega
        · rw [show p0 - lo = e0 - 1 by omega] at h5
          exact .inr (.inr h5)
      have hle1 : a0 ≤ lo := by omega
      have hle2 : lo ≤ m0 := by omega
      have hle3 : m0 ≤ e0 := by omega
      have hle4 : e0 ≤ b0 := by omega
      have hmde : md = lo + (e0 - m0) := by omega
      clear he0
      refine seg cfg29_ok mixed PanicFree.body 17 [false] [] hr2 (by first | trivial | exact HpRep.nil | assumption) (by kernel_rfl) fun s_ hs_ => ?_
      simp (maxSteps := 10000000) [SX.vc, SX.stop, SX.contS, SX.contB, SX.contW, SX.contR, SX.contD, SX.sxStep, SX.stepPure, SX.stepNew, SX.stepStore, SX.stepKeep, SX.guardIx, SX.evOp, SX.opd, SX.opds, SX.optOpd, SX.look, SX.putS, SX.gobs, SX.AllP, SX.leave, SX.lookC, SX.lookB, SX.lookT, SX.lookN, SX.findK, SX.evBuiltin, SX.ints, SX.foldI, SX.evBin, SX.evInt, SX.evStr, SX.evEq, SX.arith, SX.evLoad, SX.shapeUp, SX.evFieldAddr, SX.evField, SX.evIndexAddr, SX.evIndex, SX.evFill, SX.evBuild, SX.szs, SX.cellsV, SX.evNew, SX.evStore, SX.spliceL, SX.SV.cells, SX.evConv, SX.evSlice, SX.bnd, SX.evNil, SX.evUn, SX.evPick, SX.pickOpd, SX.popTo, SX.cnd, SX.env0, SX.TD.isAgg, SX.TD.isIface, SX.tails, SX.NotAgg, SX.evLookup, SX.evConvH, SX.evPtrEq, SX.isCells, SX.thaw, SX.frz, SX.fixB, SX.rootIx, SX.Froz, SX.frzStep, SX.fork, Go.Value.cells, Go.undef, cfg29, hlt', hne]
      refine ⟨by (unfold SX.Ob; first | trivial | omega | ((try simp only [SX.inK]); (try simp [SX.den, SX.IsU8, SX.AllP, *]); (try omega))), ?_⟩
      intro a3 w3 hr3 _
      refine post_cut (SyJ w b N u n cap c a0 m0 b0 md lo e0 (fun G => G = rot g lo m0 e0)) 1 rfl ?_ fun a4 w4 hJ => ?_
      · by_cases c3 : lo < m0
        · have c3' : (lo : Int) < (m0 : Int) := by omega
          by_cases c4 : m0 < e0
          · have c4' : (m0 : Int) < (e0 : Int) := by omega
            refine seg cfg29_ok mixed PanicFree.body 1000 [true] [(181, true)] hr3 (by first | trivial | exact HpRep.nil | assumption) (by kernel_rfl) fun s_ hs_ => ?_
            simp (maxSteps := 10000000) [SX.vc, SX.stop, SX.contS, SX.contB, SX.contW, SX.contR, SX.contD, SX.sxStep, SX.stepPure, SX.stepNew, SX.stepStore, SX.stepKeep, SX.guardIx, SX.evOp, SX.opd, SX.opds, SX.optOpd, SX.look, SX.putS, SX.gobs, SX.AllP, SX.leave, SX.lookC, SX.lookB, SX.lookT, SX.lookN, SX.findK, SX.evBuiltin, SX.ints, SX.foldI, SX.evBin, SX.evInt, SX.evStr, SX.evEq, SX.arith, SX.evLoad, SX.shapeUp, SX.evFieldAddr, SX.evField, SX.evIndexAddr, SX.evIndex, SX.evFill, SX.evBuild, SX.szs, SX.cellsV, SX.evNew, SX.evStore, SX.spliceL, SX.SV.cells, SX.evConv, SX.evSlice, SX.bnd, SX.evNil, SX.evUn, SX.evPick, SX.pickOpd, SX.popTo, SX.cnd, SX.env0, SX.TD.isAgg, SX.TD.isIface, SX.tails, SX.NotAgg, SX.evLookup, SX.evConvH, SX.evPtrEq, SX.isCells, SX.thaw, SX.frz, SX.fixB, SX.rootIx, SX.Froz, SX.frzStep, SX.fork, Go.Value.cells, Go.undef, cfg29, c3', c4']
            refine ⟨by (unfold SX.Ob; first | trivial | omega | ((try simp only [SX.inK]); (try simp [SX.den, SX.IsU8, SX.AllP, *]); (try omega))), ?_⟩
            intro a4 w4 hr4 _
            have hD4 : DatF w4 b N u n g := ⟨hN, row0, hr4.all.1.1, hrow0⟩
            refine post_call 33 [.sl 0 b 0 0 n cap 5, .v (.int .i64 lo), .v (.int .i64 m0), .v (.int .i64 e0), .fn (.func 17) [] []] hr4 (wanted_none rfl) rfl (callable 33 Try.func33) (rot_ok w4 b N u n cap c lo m0 e0 g hD4 hn c3 c4 (by omega)) ?_
            rintro e5 w5 ⟨rfl, ⟨g5, ⟨hN5, row5, hrep5, hrow5⟩, hg5⟩, hk5⟩
            refine ⟨_, rfl, ?_⟩
            have h5 := hr4.retK hk5 (fun x hx => .inr hx) 191 (.tu []) rfl [(b, true, .arr 0 N row5 5 u (0, 0))] ⟨⟨hrep5, fun _ => .inr (by simp), by simp⟩, trivial⟩ (by simp) rfl
            refine seg cfg29_ok mixed PanicFree.body 1000 [] [] h5 (by first | trivial | exact HpRep.nil | assumption) (by kernel_rfl) fun s_ hs_ => ?_
            simp (maxSteps := 10000000) [SX.vc, SX.stop, SX.contS, SX.contB, SX.contW, SX.contR, SX.contD, SX.sxStep, SX.stepPure, SX.stepNew, SX.stepStore, SX.stepKeep, SX.guardIx, SX.evOp, SX.opd, SX.opds, SX.optOpd, SX.look, SX.putS, SX.gobs, SX.AllP, SX.leave, SX.lookC, SX.lookB, SX.lookT, SX.lookN, SX.findK, SX.evBuiltin, SX.ints, SX.foldI, SX.evBin, SX.evInt, SX.evStr, SX.evEq, SX.arith, SX.evLoad, SX.shapeUp, SX.evFieldAddr, SX.evField, SX.evIndexAddr, SX.evIndex, SX.evFill, SX.evBuild, SX.szs, SX.cellsV, SX.evNew, SX.evStore, SX.spliceL, SX.SV.cells, SX.evConv, SX.evSlice, SX.bnd, SX.evNil, SX.evUn, SX.evPick, SX.pickOpd, SX.popTo, SX.cnd, SX.env0, SX.TD.isAgg, SX.TD.isIface, SX.tails, SX.NotAgg, SX.evLookup, SX.evConvH, SX.evPtrEq, SX.isCells, SX.thaw, SX.frz, SX.fixB, SX.rootIx, SX.Froz, SX.frzStep, SX.fork, Go.Value.cells, Go.undef, cfg29]
            refine ⟨by (unfold SX.Ob; first | trivial | omega | ((try simp only [SX.inK]); (try simp [SX.den, SX.IsU8, SX.AllP, *]); (try omega))), ?_⟩
            intro a6 w6 hr6 _
            exact post_inv ⟨g5, row5, hg5, hrow5, hr6.re (by simp [envTo, SX.look, den]) hr6.all rfl rfl⟩
          · have c4' : ¬ (m0 : Int) < (e0 : Int) := by omega
            refine seg cfg29_ok mixed PanicFree.body 1000 [false] [(181, true)] hr3 (by first | trivial | exact HpRep.nil | assumption) (by kernel_rfl) fun s_ hs_ => ?_
            simp (maxSteps := 10000000) [SX.vc, SX.stop, SX.contS, SX.contB, SX.contW, SX.contR, SX.contD, SX.sxStep, SX.stepPure, SX.stepNew, SX.stepStore, SX.stepKeep, SX.guardIx, SX.evOp, SX.opd, SX.opds, SX.optOpd, SX.look, SX.putS, SX.gobs, SX.AllP, SX.leave, SX.lookC, SX.lookB, SX.lookT, SX.lookN, SX.findK, SX.evBuiltin, SX.ints, SX.foldI, SX.evBin, SX.evInt, SX.evStr, SX.evEq, SX.arith, SX.evLoad, SX.shapeUp, SX.evFieldAddr, SX.evField, SX.evIndexAddr, SX.evIndex, SX.evFill, SX.evBuild, SX.szs, SX.cellsV, SX.evNew, SX.evStore, SX.spliceL, SX.SV.cells, SX.evConv, SX.evSlice, SX.bnd, SX.evNil, SX.evUn, SX.evPick, SX.pickOpd, SX.popTo, SX.cnd, SX.env0, SX.TD.isAgg, SX.TD.isIface, SX.tails, SX.NotAgg, SX.evLookup, SX.evConvH, SX.evPtrEq, SX.isCells, SX.thaw, SX.frz, SX.fixB, SX.rootIx, SX.Froz, SX.frzStep, SX.fork, Go.Value.cells, Go.undef, cfg29, c3', c4']
            refine ⟨by (unfold SX.Ob; first | trivial | omega | ((try simp only [SX.inK]); (try simp [SX.den, SX.IsU8, SX.AllP, *]); (try omega))), ?_⟩
            intro a4 w4 hr4 _
            exact post_inv ⟨g, row0, by rw [show e0 = m0 by omega, rot_id2 hle2], hrow0, hr4.re (by simp [envTo, SX.look, den]) hr4.all rfl rfl⟩
        · have c3' : ¬ (lo : Int) < (m0 : Int) := by omega
          refine seg cfg29_ok mixed PanicFree.body 1000 [false] [(181, false)] hr3 (by first | trivial | exact HpRep.nil | assumption) (by kernel_rfl) fun s_ hs_ => ?_
          simp (maxSteps := 10000000) [SX.vc, SX.stop, SX.contS, SX.contB, SX.contW, SX.contR, SX.contD, SX.sxStep, SX.stepPure, SX.stepNew, SX.stepStore, SX.stepKeep, SX.guardIx, SX.evOp, SX.opd, SX.opds, SX.optOpd, SX.look, SX.putS, SX.gobs, SX.AllP, SX.leave, SX.lookC, SX.lookB, SX.lookT, SX.lookN, SX.findK, SX.evBuiltin, SX.ints, SX.foldI, SX.evBin, SX.evInt, SX.evStr, SX.evEq, SX.arith, SX.evLoad, SX.shapeUp, SX.evFieldAddr, SX.evField, SX.evIndexAddr, SX.evIndex, SX.evFill, SX.evBuild, SX.szs, SX.cellsV, SX.evNew, SX.evStore, SX.spliceL, SX.SV.cells, SX.evConv, SX.evSlice, SX.bnd, SX.evNil, SX.evUn, SX.evPick, SX.pickOpd, SX.popTo, SX.cnd, SX.env0, SX.TD.isAgg, SX.TD.isIface, SX.tails, SX.NotAgg, SX.evLookup, SX.evConvH, SX.evPtrEq, SX.isCells, SX.thaw, SX.frz, SX.fixB, SX.rootIx, SX.Froz, SX.frzStep, SX.fork, Go.Value.cells, Go.undef, cfg29, c3']
          refine ⟨by (unfold SX.Ob; first | trivial | omega | ((try simp only [SX.inK]); (try simp [SX.den, SX.IsU8, SX.AllP, *]); (try omega))), ?_⟩
          intro a4 w4 hr4 _
          exact post_inv ⟨g, row0, by rw [show lo = m0 by omega, rot_id1], hrow0, hr4.re (by simp [envTo, SX.look, den]) hr4.all rfl rfl⟩
      clear hr hr1 hr2 hr3
      obtain ⟨G1, row1, hG1, hrow1, hr4⟩ := hJ
      have hcr := cross hle1 hle2 hle3 hle4 hA hB hF1 hF2
      have hS1 := cross_rot hle1 hle2 hle3 hle4 hA hB hF2
      rw [← hG1, ← hmde] at hcr
      rw [← hG1] at hS1
      have hVs : ∀ G, SameF key a0 b0 g G → ∀ j, j < n → V (G j) := fun G hS j hj => by
        by_cases hj2 : a0 ≤ j ∧ j < b0
        · obtain ⟨q, q1, q2, q3⟩ := hS.mem hj2.1 hj2.2
          rw [← q3]; exact hV q (by omega)
        · rw [hS.1 j (by omega)]; exact hV j hj
      have hA1 : SortF key a0 lo G1 := fun i j hi hij hj => by
        rw [hG1, rot_out hle2 hle3 (.inl (by omega)), rot_out hle2 hle3 (.inl hj)]
        exact hA i j hi hij (by omega)
      have hB1 : SortF key lo md G1 := fun i j hi hij hj => by
        rw [hG1, rot_left hi (by omega), rot_left (by omega) (by omega)]
        exact hB _ _ (by omega) (by omega) (by omega)
      have hA2 : SortF key md e0 G1 := fun i j hi hij hj => by
        rw [hG1, rot_right (by omega) (by omega), rot_right (by omega) hj]
        exact hA _ _ (by omega) (by omega) (by omega)
      have hB2 : SortF key e0 b0 G1 := fun i j hi hij hj => by
        rw [hG1, rot_out hle2 hle3 (.inr hi), rot_out hle2 hle3 (.inr (by omega))]
        exact hB i j (by omega) hij hj
      refine seg cfg29_ok mixed PanicFree.body 1 [] [] hr4 (by first | trivial | exact HpRep.nil | assumption) (by kernel_rfl) fun s_ hs_ => ?_
      simp (maxSteps := 10000000) [SX.vc, SX.stop, SX.contS, SX.contB, SX.contW, SX.contR, SX.contD, SX.sxStep, SX.stepPure, SX.stepNew, SX.stepStore, SX.stepKeep, SX.guardIx, SX.evOp, SX.opd, SX.opds, SX.optOpd, SX.look, SX.putS, SX.gobs, SX.AllP, SX.leave, SX.lookC, SX.lookB, SX.lookT, SX.lookN, SX.findK, SX.evBuiltin, SX.ints, SX.foldI, SX.evBin, SX.evInt, SX.evStr, SX.evEq, SX.arith, SX.evLoad, SX.shapeUp, SX.evFieldAddr, SX.evField, SX.evIndexAddr, SX.evIndex, SX.evFill, SX.evBuild, SX.szs, SX.cellsV, SX.evNew, SX.evStore, SX.spliceL, SX.SV.cells, SX.evConv, SX.evSlice, SX.bnd, SX.evNil, SX.evUn, SX.evPick, SX.pickOpd, SX.popTo, SX.cnd, SX.env0, SX.TD.isAgg, SX.TD.isIface, SX.tails, SX.NotAgg, SX.evLookup, SX.evConvH, SX.evPtrEq, SX.isCells, SX.thaw, SX.frz, SX.fixB, SX.rootIx, SX.Froz, SX.frzStep, SX.fork, Go.Value.cells, Go.undef, cfg29]
      refine ⟨by (unfold SX.Ob; first | trivial | omega | ((try simp only [SX.inK]); (try simp [SX.den, SX.IsU8, SX.AllP, *]); (try omega))), ?_⟩
      intro a5 w5 hr5 _
      refine post_cut (SyJ w b N u n cap c a0 m0 b0 md lo e0 (fun G => SameF key a0 md G1 G ∧ SortF key a0 md G)) 1 rfl ?_ fun a6 w6 hJ => ?_
      · by_cases c3 : a0 < lo
        · have c3' : (a0 : Int) < (lo : Int) := by omega
          by_cases c4 : lo < md
          · have c4' : (lo : Int) < (md : Int) := by omega
            refine seg cfg29_ok mixed PanicFree.body 1000 [true] [(195, true)] hr5 (by first | trivial | exact HpRep.nil | assumption) (by kernel_rfl) fun s_ hs_ => ?_
            simp (maxSteps := 10000000) [SX.vc, SX.stop, SX.contS, SX.contB, SX.contW, SX.contR, SX.contD, SX.sxStep, SX.stepPure, SX.stepNew, SX.stepStore, SX.stepKeep, SX.guardIx, SX.evOp, SX.opd, SX.opds, SX.optOpd, SX.look, SX.putS, SX.gobs, SX.AllP, SX.leave, SX.lookC, SX.lookB, SX.lookT, SX.lookN, SX.findK, SX.evBuiltin, SX.ints, SX.foldI, SX.evBin, SX.evInt, SX.evStr, SX.evEq, SX.arith, SX.evLoad, SX.shapeUp, SX.evFieldAddr, SX.evField, SX.evIndexAddr, SX.evIndex, SX.evFill, SX.evBuild, SX.szs, SX.cellsV, SX.evNew, SX.evStore, SX.spliceL, SX.SV.cells, SX.evConv, SX.evSlice, SX.bnd, SX.evNil, SX.evUn, SX.evPick, SX.pickOpd, SX.popTo, SX.cnd, SX.env0, SX.TD.isAgg, SX.TD.isIface, SX.tails, SX.NotAgg, SX.evLookup, SX.evConvH, SX.evPtrEq, SX.isCells, SX.thaw, SX.frz, SX.fixB, SX.rootIx, SX.Froz, SX.frzStep, SX.fork, Go.Value.cells, Go.undef, cfg29, c3', c4']
            refine ⟨by (unfold SX.Ob; first | trivial | omega | ((try simp only [SX.inK]); (try simp [SX.den, SX.IsU8, SX.AllP, *]); (try omega))), ?_⟩
            intro a6 w6 hr6 _
            have hD6 : DatF w6 b N u n G1 := ⟨hN, row1, hr6.all.1.1, hrow1⟩
            refine post_call 29 [.sl 0 b 0 0 n cap 5, .v (.int .i64 a0), .v (.int .i64 lo), .v (.int .i64 md), .fn (.func 17) [] []] hr6 (wanted_none rfl) rfl (callable 29 Try.func29) (IH w0 w6 b N u n cap c a0 lo md key V G1 hc (KeepsTo.more hw hr6.keeps) hD6 hn c3 c4 (by omega) (hVs G1 hS1) hA1 hB1 (by omega)) ?_
            rintro e7 w7 ⟨rfl, ⟨g7, ⟨hN7, row7, hrep7, hrow7⟩, hg7⟩, hk7⟩
            refine ⟨_, rfl, ?_⟩
            have h7 := hr6.retK hk7 (fun x hx => .inr hx) 205 (.tu []) rfl [(b, true, .arr 0 N row7 5 u (0, 0))] ⟨⟨hrep7, fun _ => .inr (by simp), by simp⟩, trivial⟩ (by simp) rfl
            refine seg cfg29_ok mixed PanicFree.body 1000 [] [] h7 (by first | trivial | exact HpRep.nil | assumption) (by kernel_rfl) fun s_ hs_ => ?_
            simp (maxSteps := 10000000) [SX.vc, SX.stop, SX.contS, SX.contB, SX.contW, SX.contR, SX.contD, SX.sxStep, SX.stepPure, SX.stepNew, SX.stepStore, SX.stepKeep, SX.guardIx, SX.evOp, SX.opd, SX.opds, SX.optOpd, SX.look, SX.putS, SX.gobs, SX.AllP, SX.leave, SX.lookC, SX.lookB, SX.lookT, SX.lookN, SX.findK, SX.evBuiltin, SX.ints, SX.foldI, SX.evBin, SX.evInt, SX.evStr, SX.evEq, SX.arith, SX.evLoad, SX.shapeUp, SX.evFieldAddr, SX.evField, SX.evIndexAddr, SX.evIndex, SX.evFill, SX.evBuild, SX.szs, SX.cellsV, SX.evNew, SX.evStore, SX.spliceL, SX.SV.cells, SX.evConv, SX.evSlice, SX.bnd, SX.evNil, SX.evUn, SX.evPick, SX.pickOpd, SX.popTo, SX.cnd, SX.env0, SX.TD.isAgg, SX.TD.isIface, SX.tails, SX.NotAgg, SX.evLookup, SX.evConvH, SX.evPtrEq, SX.isCells, SX.thaw, SX.frz, SX.fixB, SX.rootIx, SX.Froz, SX.frzStep, SX.fork, Go.Value.cells, Go.undef, cfg29]
            refine ⟨by (unfold SX.Ob; first | trivial | omega | ((try simp only [SX.inK]); (try simp [SX.den, SX.IsU8, SX.AllP, *]); (try omega))), ?_⟩
            intro a8 w8 hr8 _
            exact post_inv ⟨g7, row7, hg7, hrow7, hr8.re (by simp [envTo, SX.look, den]) hr8.all rfl rfl⟩
          · have c4' : ¬ (lo : Int) < (md : Int) := by omega
            refine seg cfg29_ok mixed PanicFree.body 1000 [false] [(195, true)] hr5 (by first | trivial | exact HpRep.nil | assumption) (by kernel_rfl) fun s_ hs_ => ?_
            simp (maxSteps := 10000000) [SX.vc, SX.stop, SX.contS, SX.contB, SX.contW, SX.contR, SX.contD, SX.sxStep, SX.stepPure, SX.stepNew, SX.stepStore, SX.stepKeep, SX.guardIx, SX.evOp, SX.opd, SX.opds, SX.optOpd, SX.look, SX.putS, SX.gobs, SX.AllP, SX.leave, SX.lookC, SX.lookB, SX.lookT, SX.lookN, SX.findK, SX.evBuiltin, SX.ints, SX.foldI, SX.evBin, SX.evInt, SX.evStr, SX.evEq, SX.arith, SX.evLoad, SX.shapeUp, SX.evFieldAddr, SX.evField, SX.evIndexAddr, SX.evIndex, SX.evFill, SX.evBuild, SX.szs, SX.cellsV, SX.evNew, SX.evStore, SX.spliceL, SX.SV.cells, SX.evConv, SX.evSlice, SX.bnd, SX.evNil, SX.evUn, SX.evPick, SX.pickOpd, SX.popTo, SX.cnd, SX.env0, SX.TD.isAgg, SX.TD.isIface, SX.tails, SX.NotAgg, SX.evLookup, SX.evConvH, SX.evPtrEq, SX.isCells, SX.thaw, SX.frz, SX.fixB, SX.rootIx, SX.Froz, SX.frzStep, SX.fork, Go.Value.cells, Go.undef, cfg29, c3', c4']
            refine ⟨by (unfold SX.Ob; first | trivial | omega | ((try simp only [SX.inK]); (try simp [SX.den, SX.IsU8, SX.AllP, *]); (try omega))), ?_⟩
            intro a6 w6 hr6 _
            exact post_inv ⟨G1, row1, ⟨SameF.refl key a0 md G1, by rw [show md = lo by omega]; exact hA1⟩, hrow1, hr6.re (by simp [envTo, SX.look, den]) hr6.all rfl rfl⟩
        · have c3' : ¬ (a0 : Int) < (lo : Int) := by omega
          refine seg cfg29_ok mixed PanicFree.body 1000 [false] [(195, false)] hr5 (by first | trivial | exact HpRep.nil | assumption) (by kernel_rfl) fun s_ hs_ => ?_
          simp (maxSteps := 10000000) [SX.vc, SX.stop, SX.contS, SX.contB, SX.contW, SX.contR, SX.contD, SX.sxStep, SX.stepPure, SX.stepNew, SX.stepStore, SX.stepKeep, SX.guardIx, SX.evOp, SX.opd, SX.opds, SX.optOpd, SX.look, SX.putS, SX.gobs, SX.AllP, SX.leave, SX.lookC, SX.lookB, SX.lookT, SX.lookN, SX.findK, SX.evBuiltin, SX.ints, SX.foldI, SX.evBin, SX.evInt, SX.evStr, SX.evEq, SX.arith, SX.evLoad, SX.shapeUp, SX.evFieldAddr, SX.evField, SX.evIndexAddr, SX.evIndex, SX.evFill, SX.evBuild, SX.szs, SX.cellsV, SX.evNew, SX.evStore, SX.spliceL, SX.SV.cells, SX.evConv, SX.evSlice, SX.bnd, SX.evNil, SX.evUn, SX.evPick, SX.pickOpd, SX.popTo, SX.cnd, SX.env0, SX.TD.isAgg, SX.TD.isIface, SX.tails, SX.NotAgg, SX.evLookup, SX.evConvH, SX.evPtrEq, SX.isCells, SX.thaw, SX.frz, SX.fixB, SX.rootIx, SX.Froz, SX.frzStep, SX.fork, Go.Value.cells, Go.undef, cfg29, c3']
          refine ⟨by (unfold SX.Ob; first | trivial | omega | ((try simp only [SX.inK]); (try simp [SX.den, SX.IsU8, SX.AllP, *]); (try omega))), ?_⟩
          intro a6 w6 hr6 _
          exact post_inv ⟨G1, row1, ⟨SameF.refl key a0 md G1, by rw [show a0 = lo by omega]; exact hB1⟩, hrow1, hr6.re (by simp [envTo, SX.look, den]) hr6.all rfl rfl⟩
      clear hr4 hr5
      obtain ⟨G2, row2, ⟨hS2, hT2⟩, hrow2, hr6⟩ := hJ
      have hA3 : SortF key md e0 G2 := fun i j hi hij hj => by
        rw [hS2.1 i (.inr hi), hS2.1 j (.inr (by omega))]
        exact hA2 i j hi hij hj
      have hB3 : SortF key e0 b0 G2 := fun i j hi hij hj => by
        rw [hS2.1 i (.inr (by omega)), hS2.1 j (.inr (by omega))]
        exact hB2 i j hi hij hj
      have hS12 := hS1.trans (hS2.wide (Nat.le_refl _) (by omega) (show md ≤ b0 by omega))
      have fin : ∀ G3, SameF key md b0 G2 G3 → SortF key md b0 G3 → SameF key a0 b0 g G3 ∧ SortF key a0 b0 G3 := fun G3 hS3 hT3 => by
        obtain ⟨f1, f2⟩ := halves (show a0 ≤ md by omega) (show md ≤ b0 by omega) hcr hS2 hT2 hS3 hT3
        exact ⟨hS1.trans f1, f2⟩
      by_cases c3 : md < e0
      · have c3' : (md : Int) < (e0 : Int) := by omega
        by_cases c4 : e0 < b0
        · have c4' : (e0 : Int) < (b0 : Int) := by omega
          refine seg cfg29_ok mixed PanicFree.body 1000 [true] [(209, true)] hr6 (by first | trivial | exact HpRep.nil | assumption) (by kernel_rfl) fun s_ hs_ => ?_
          simp (maxSteps := 10000000) [SX.vc, SX.stop, SX.contS, SX.contB, SX.contW, SX.contR, SX.contD, SX.sxStep, SX.stepPure, SX.stepNew, SX.stepStore, SX.stepKeep, SX.guardIx, SX.evOp, SX.opd, SX.opds, SX.optOpd, SX.look, SX.putS, SX.gobs, SX.AllP, SX.leave, SX.lookC, SX.lookB, SX.lookT, SX.lookN, SX.findK, SX.evBuiltin, SX.ints, SX.foldI, SX.evBin, SX.evInt, SX.evStr, SX.evEq, SX.arith, SX.evLoad, SX.shapeUp, SX.evFieldAddr, SX.evField, SX.evIndexAddr, SX.evIndex, SX.evFill, SX.evBuild, SX.szs, SX.cellsV, SX.evNew, SX.evStore, SX.spliceL, SX.SV.cells, SX.evConv, SX.evSlice, SX.bnd, SX.evNil, SX.evUn, SX.evPick, SX.pickOpd, SX.popTo, SX.cnd, SX.env0, SX.TD.isAgg, SX.TD.isIface, SX.tails, SX.NotAgg, SX.evLookup, SX.evConvH, SX.evPtrEq, SX.isCells, SX.thaw, SX.frz, SX.fixB, SX.rootIx, SX.Froz, SX.frzStep, SX.fork, Go.Value.cells, Go.undef, cfg29, c3', c4']
          refine ⟨by (unfold SX.Ob; first | trivial | omega | ((try simp only [SX.inK]); (try simp [SX.den, SX.IsU8, SX.AllP, *]); (try omega))), ?_⟩
          intro a7 w7 hr7 _
          have hD7 : DatF w7 b N u n G2 := ⟨hN, row2, hr7.all.1.1, hrow2⟩
          refine post_call 29 [.sl 0 b 0 0 n cap 5, .v (.int .i64 md), .v (.int .i64 e0), .v (.int .i64 b0), .fn (.func 17) [] []] hr7 (wanted_none rfl) rfl (callable 29 Try.func29) (IH w0 w7 b N u n cap c md e0 b0 key V G2 hc (KeepsTo.more hw hr7.keeps) hD7 hn c3 c4 h3 (hVs G2 hS12) hA3 hB3 (by omega)) ?_
          rintro e8 w8 ⟨rfl, ⟨g8, ⟨hN8, row8, hrep8, hrow8⟩, hg8⟩, hk8⟩
          refine ⟨_, rfl, ?_⟩
          have h8 := hr7.retK hk8 (fun x hx => .inr hx) 219 (.tu []) rfl [(b, true, .arr 0 N row8 5 u (0, 0))] ⟨⟨hrep8, fun _ => .inr (by simp), by simp⟩, trivial⟩ (by simp) rfl
          refine seg cfg29_ok mixed PanicFree.body 1000 [] [] h8 (by first | trivial | exact HpRep.nil | assumption) (by kernel_rfl) fun s_ hs_ => ?_
          simp (maxSteps := 10000000) [SX.vc, SX.stop, SX.contS, SX.contB, SX.contW, SX.contR, SX.contD, SX.sxStep, SX.stepPure, SX.stepNew, SX.stepStore, SX.stepKeep, SX.guardIx, SX.evOp, SX.opd, SX.opds, SX.optOpd, SX.look, SX.putS, SX.gobs, SX.AllP, SX.leave, SX.lookC, SX.lookB, SX.lookT, SX.lookN, SX.findK, SX.evBuiltin, SX.ints, SX.foldI, SX.evBin, SX.evInt, SX.evStr, SX.evEq, SX.arith, SX.evLoad, SX.shapeUp, SX.evFieldAddr, SX.evField, SX.evIndexAddr, SX.evIndex, SX.evFill, SX.evBuild, SX.szs, SX.cellsV, SX.evNew, SX.evStore, SX.spliceL, SX.SV.cells, SX.evConv, SX.evSlice, SX.bnd, SX.evNil, SX.evUn, SX.evPick, SX.pickOpd, SX.popTo, SX.cnd, SX.env0, SX.TD.isAgg, SX.TD.isIface, SX.tails, SX.NotAgg, SX.evLookup, SX.evConvH, SX.evPtrEq, SX.isCells, SX.thaw, SX.frz, SX.fixB, SX.rootIx, SX.Froz, SX.frzStep, SX.fork, Go.Value.cells, Go.undef, cfg29]
          refine ⟨by (unfold SX.Ob; first | trivial | omega | ((try simp only [SX.inK]); (try simp [SX.den, SX.IsU8, SX.AllP, *]); (try omega))), ?_⟩
          intro a9 w9 hr9 _
          exact post_nil (end0 hr9 rfl ⟨rfl, ⟨g8, ⟨hN, row8, hr9.all.1.1, hrow8⟩, fin g8 hg8.1 hg8.2⟩, hr9.keeps⟩).2
        · have c4' : ¬ (e0 : Int) < (b0 : Int) := by omega
          refine seg cfg29_ok mixed PanicFree.body 1000 [false] [(209, true)] hr6 (by first | trivial | exact HpRep.nil | assumption) (by kernel_rfl) fun s_ hs_ => ?_
          simp (maxSteps := 10000000) [SX.vc, SX.stop, SX.contS, SX.contB, SX.contW, SX.contR, SX.contD, SX.sxStep, SX.stepPure, SX.stepNew, SX.stepStore, SX.stepKeep, SX.guardIx, SX.evOp, SX.opd, SX.opds, SX.optOpd, SX.look, SX.putS, SX.gobs, SX.AllP, SX.leave, SX.lookC, SX.lookB, SX.lookT, SX.lookN, SX.findK, SX.evBuiltin, SX.ints, SX.foldI, SX.evBin, SX.evInt, SX.evStr, SX.evEq, SX.arith, SX.evLoad, SX.shapeUp, SX.evFieldAddr, SX.evField, SX.evIndexAddr, SX.evIndex, SX.evFill, SX.evBuild, SX.szs, SX.cellsV, SX.evNew, SX.evStore, SX.spliceL, SX.SV.cells, SX.evConv, SX.evSlice, SX.bnd, SX.evNil, SX.evUn, SX.evPick, SX.pickOpd, SX.popTo, SX.cnd, SX.env0, SX.TD.isAgg, SX.TD.isIface, SX.tails, SX.NotAgg, SX.evLookup, SX.evConvH, SX.evPtrEq, SX.isCells, SX.thaw, SX.frz, SX.fixB, SX.rootIx, SX.Froz, SX.frzStep, SX.fork, Go.Value.cells, Go.undef, cfg29, c3', c4']
          refine ⟨by (unfold SX.Ob; first | trivial | omega | ((try simp only [SX.inK]); (try simp [SX.den, SX.IsU8, SX.AllP, *]); (try omega))), ?_⟩
          intro a7 w7 hr7 _
          exact post_nil (end0 hr7 rfl ⟨rfl, ⟨G2, ⟨hN, row2, hr7.all.1.1, hrow2⟩, fin G2 (SameF.refl key md b0 G2) (by rw [show b0 = e0 by omega]; exact hA3)⟩, hr7.keeps⟩).2
      · have c3' : ¬ (md : Int) < (e0 : Int) := by omega
        refine seg cfg29_ok mixed PanicFree.body 1000 [false] [(209, false)] hr6 (by first | trivial | exact HpRep.nil | assumption) (by kernel_rfl) fun s_ hs_ => ?_
        simp (maxSteps := 10000000) [SX.vc, SX.stop, SX.contS, SX.contB, SX.contW, SX.contR, SX.contD, SX.sxStep, SX.stepPure, SX.stepNew, SX.stepStore, SX.stepKeep, SX.guardIx, SX.evOp, SX.opd, SX.opds, SX.optOpd, SX.look, SX.putS, SX.gobs, SX.AllP, SX.leave, SX.lookC, SX.lookB, SX.lookT, SX.lookN, SX.findK, SX.evBuiltin, SX.ints, SX.foldI, SX.evBin, SX.evInt, SX.evStr, SX.evEq, SX.arith, SX.evLoad, SX.shapeUp, SX.evFieldAddr, SX.evField, SX.evIndexAddr, SX.evIndex, SX.evFill, SX.evBuild, SX.szs, SX.cellsV, SX.evNew, SX.evStore, SX.spliceL, SX.SV.cells, SX.evConv, SX.evSlice, SX.bnd, SX.evNil, SX.evUn, SX.evPick, SX.pickOpd, SX.popTo, SX.cnd, SX.env0, SX.TD.isAgg, SX.TD.isIface, SX.tails, SX.NotAgg, SX.evLookup, SX.evConvH, SX.evPtrEq, SX.isCells, SX.thaw, SX.frz, SX.fixB, SX.rootIx, SX.Froz, SX.frzStep, SX.fork, Go.Value.cells, Go.undef, cfg29, c3']
        refine ⟨by (unfold SX.Ob; first | trivial | omega | ((try simp only [SX.inK]); (try simp [SX.den, SX.IsU8, SX.AllP, *]); (try omega))), ?_⟩
        intro a7 w7 hr7 _
        exact post_nil (end0 hr7 rfl ⟨rfl, ⟨G2, ⟨hN, row2, hr7.all.1.1, hrow2⟩, fin G2 (SameF.refl key md b0 G2) (by rw [show md = e0 by omega]; exact hB3)⟩, hr7.keeps⟩).2

end Go.Proofs
