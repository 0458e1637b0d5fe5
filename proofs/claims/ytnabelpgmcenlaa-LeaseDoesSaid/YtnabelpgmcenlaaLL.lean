/- Leases: Renew. -/
import Derived.Test.YtnabelpgmcenlaaLJ
namespace Go.Proofs
set_option linter.unusedVariables false
set_option linter.unusedSimpArgs false
open Go Go.SX Go.RowKit

def maxI (a b : Int) : Int := if a < b then b else a
/-- A key's lease. -/
def getK (L : List Lse) (y : Int) : Lse := (L.find? fun x => decide (x.k = y)).getD lse0
theorem srt_inj {L : List Lse} (hs : Srt L) {i j : Nat} (hi : i < L.length) (hj : j < L.length) (h : (nth lse0 L i).k = (nth lse0 L j).k) : i = j := by
  rcases Nat.lt_trichotomy i j with h1 | h1 | h1
  · have := hs i j h1 hj; omega
  · exact h1
  · have := hs j i h1 hi; omega
theorem getK_at {L : List Lse} {y : Int} {i : Nat} (hs : Srt L) (hi : i < L.length) (hk : (nth lse0 L i).k = y) : getK L y = nth lse0 L i := by
  unfold getK
  rcases hf : L.find? (fun x => decide (x.k = y)) with _ | z
  · have := List.find?_eq_none.1 hf _ (nth_mem (d := lse0) hi)
    simp [hk] at this
  · have h1 := List.find?_some hf
    have h2 := List.mem_of_find?_eq_some hf
    obtain ⟨j, hj, rfl⟩ := List.mem_iff_getElem.1 h2
    simp only [decide_eq_true_eq] at h1
    have : i = j := srt_inj hs hi hj (by rw [hk, nth_lt hj, h1])
    subst this
    rw [hf, nth_lt hj]
    rfl
theorem hasK_get {L : List Lse} {y : Int} (h : HasK L y) : getK L y ∈ L ∧ (getK L y).k = y := by
  obtain ⟨x, hx, hk⟩ := h
  unfold getK
  rcases hf : L.find? (fun x => decide (x.k = y)) with _ | z
  · have := List.find?_eq_none.1 hf x hx
    simp [hk] at this
  · rw [hf]
    exact ⟨List.mem_of_find?_eq_some hf, by simpa using List.find?_some hf⟩

def upK (key m : Int) (y : Lse) : Lse := if y.k = key then { y with u := maxI y.u m } else y
theorem place_up {L : List Lse} {key m : Int} {i : Nat} (hs : Srt L) (hi : i < L.length) (hk : (nth lse0 L i).k = key) : L.set i { nth lse0 L i with u := maxI (nth lse0 L i).u m } = L.map (upK key m) := by
  apply List.ext_getElem (by simp)
  intro j h1 h2
  have hj : j < L.length := by simpa using h1
  rw [List.getElem_set, List.getElem_map]
  by_cases hij : i = j
  · subst hij
    rw [if_pos rfl, nth_lt hj]
    rw [nth_lt hj] at hk
    rw [upK, if_pos hk]
  · rw [if_neg hij, upK, if_neg]
    intro h
    exact hij (srt_inj hs hi hj (by rw [hk, nth_lt hj, h]))

/-- What Renew tells. -/
def renE (t : Tab) (key host epoch ttl : Int) : Int := if GoodT t ttl then (if HasK t.L key then (if (getK t.L key).h = host ∧ (getK t.L key).e = epoch then 0 else 61) else 4) else 1
def renT (t : Tab) (key host epoch ttl : Int) : Tab := if renE t key host epoch ttl = 0 then ⟨t.last, t.now, t.L.map (upK key (t.now + ttl))⟩ else tab0
def RenR (w : World) (t : Tab) (key host epoch ttl : Int) (e : Ending) (w' : World) : Prop :=
  ∃ v1, e = .returned (den (.tu [.ag (tabC (renT t key host epoch ttl) v1), .v (.int .i64 (renE t key host epoch ttl))])) ∧ RdL (fun x => w.heap.size ≤ x) w' v1 (renT t key host epoch ttl).L ∧ Below w.heap.size w w'

set_option maxRecDepth 100000 in
set_option maxHeartbeats 16000000 in
/-- Renew. -/
theorem Renew_ok {P : Nat → Prop} (w : World) (v : Value) (t : Tab) (key host epoch ttl : Int) (hL : RdL P w v t.L) (hn : t.L.length ≤ 100000) (hl2 : t.now ≤ 2305843009213693952) : Calls Try.prog 17 (denL [.ag (tabC t v), .v (.int .i64 key), .v (.int .i64 host), .v (.int .i64 epoch), .v (.int .i64 ttl)]).toArray w (RenR w t key host epoch ttl) := by
  refine enter (F := frame0 w) Try.func17 rfl [.ag (tabC t v), .v (.int .i64 key), .v (.int .i64 host), .v (.int .i64 epoch), .v (.int .i64 ttl)] [] (by simp [Try.f17]) trivial (keeps0 w) fun a hr => ?_
  obtain ⟨ad, cp, rfl⟩ := hL.slice
  refine seg cfg17_ok mixed PanicFree.body 1000 [] [] hr (by first | trivial | exact HpRep.nil | assumption) (by kernel_rfl) fun sA hsA => ?_
  simp (maxSteps := 10000000) [SX.vc, SX.stop, SX.contS, SX.contB, SX.contW, SX.contR, SX.contD, SX.sxStep, SX.stepPure, SX.stepNew, SX.stepStore, SX.stepKeep, SX.guardIx, SX.evOp, SX.opd, SX.opds, SX.optOpd, SX.look, SX.putS, SX.gobs, SX.AllP, SX.leave, SX.lookC, SX.lookB, SX.lookT, SX.lookN, SX.findK, SX.evBuiltin, SX.ints, SX.foldI, SX.evBin, SX.evInt, SX.evStr, SX.evEq, SX.arith, SX.evLoad, SX.shapeUp, SX.evFieldAddr, SX.evField, SX.evIndexAddr, SX.evIndex, SX.evFill, SX.evBuild, SX.szs, SX.cellsV, SX.evNew, SX.evStore, SX.spliceL, SX.SV.cells, SX.evConv, SX.evSlice, SX.bnd, SX.evNil, SX.evUn, SX.evPick, SX.pickOpd, SX.popTo, SX.cnd, SX.env0, SX.TD.isAgg, SX.TD.isIface, SX.tails, SX.NotAgg, SX.evLookup, SX.evConvH, SX.evPtrEq, SX.isCells, SX.thaw, SX.frz, SX.fixB, SX.rootIx, SX.Froz, SX.frzStep, SX.fork, Go.Value.cells, Go.undef, cfg17, Try.f17, tabC]
  refine ⟨by (unfold SX.Ob; first | trivial | omega | ((try simp only [SX.inK]); (try simp [SX.den, SX.IsU8, SX.AllP, *]); (try omega))), ?_⟩
  intro a1 w1 hr1 _
  refine post_call 39 [.ag [.v (.int .i64 t.last), .v (.int .i64 t.now), .v (.slice ad t.L.length cp)], .v (.int .i64 ttl)] hr1 (by first | exact wanted_none rfl | exact wanted_zero (hr1.env.same rfl rfl rfl rfl) rfl (by simp) | exact wanted_zero (hr1.env.same rfl rfl rfl rfl) rfl (by simp [*])) rfl (callable 39 Try.func39) (good_ok w1 _ t ttl (hL.below hr1.keeps.toBelow) (by omega)) ?_
  rintro e2 w2 ⟨rfl, hb2⟩
  refine ⟨_, rfl, ?_⟩
  have h2 := hr1.ret hb2 16 (.v (.bool (decide (GoodT t ttl)))) rfl _ (hr1.all.below hb2) (by simp) rfl
  by_cases hGd : GoodT t ttl
  rotate_left
  · have hE : renE t key host epoch ttl = 1 := if_neg hGd
    have hT : renT t key host epoch ttl = tab0 := if_neg (by omega)
    refine seg cfg17_ok mixed PanicFree.body 1000 [true] [] h2 (by first | trivial | exact HpRep.nil | assumption) (by kernel_rfl) fun s_ hs_ => ?_
    simp (maxSteps := 10000000) [SX.vc, SX.stop, SX.contS, SX.contB, SX.contW, SX.contR, SX.contD, SX.sxStep, SX.stepPure, SX.stepNew, SX.stepStore, SX.stepKeep, SX.guardIx, SX.evOp, SX.opd, SX.opds, SX.optOpd, SX.look, SX.putS, SX.gobs, SX.AllP, SX.leave, SX.lookC, SX.lookB, SX.lookT, SX.lookN, SX.findK, SX.evBuiltin, SX.ints, SX.foldI, SX.evBin, SX.evInt, SX.evStr, SX.evEq, SX.arith, SX.evLoad, SX.shapeUp, SX.evFieldAddr, SX.evField, SX.evIndexAddr, SX.evIndex, SX.evFill, SX.evBuild, SX.szs, SX.cellsV, SX.evNew, SX.evStore, SX.spliceL, SX.SV.cells, SX.evConv, SX.evSlice, SX.bnd, SX.evNil, SX.evUn, SX.evPick, SX.pickOpd, SX.popTo, SX.cnd, SX.env0, SX.TD.isAgg, SX.TD.isIface, SX.tails, SX.NotAgg, SX.evLookup, SX.evConvH, SX.evPtrEq, SX.isCells, SX.thaw, SX.frz, SX.fixB, SX.rootIx, SX.Froz, SX.frzStep, SX.fork, Go.Value.cells, Go.undef, cfg17, hGd]
    refine ⟨by (unfold SX.Ob; first | trivial | omega | ((try simp only [SX.inK]); (try simp [SX.den, SX.IsU8, SX.AllP, *]); (try omega))), ?_⟩
    intro a3 w3 hr3 _
    exact post_retn (endC2 hr3 rfl rfl rfl tok24 rfl rfl ⟨.slice none 0 0, by rw [hE, hT]; simp [den, denL, tabC, tab0], by rw [hT]; exact OwS.nil.rd, hr3.keeps.toBelow⟩).1
  have hC := hGd.2.2
  have hsr := chk_srt hC
  have hg1 := hGd.1
  have hg2 := hGd.2.1
  have hn0 := hC.2.2
  refine seg cfg17_ok mixed PanicFree.body 1000 [false] [] h2 (by first | trivial | exact HpRep.nil | assumption) (by kernel_rfl) fun s_ hs_ => ?_
  simp (maxSteps := 10000000) [SX.vc, SX.stop, SX.contS, SX.contB, SX.contW, SX.contR, SX.contD, SX.sxStep, SX.stepPure, SX.stepNew, SX.stepStore, SX.stepKeep, SX.guardIx, SX.evOp, SX.opd, SX.opds, SX.optOpd, SX.look, SX.putS, SX.gobs, SX.AllP, SX.leave, SX.lookC, SX.lookB, SX.lookT, SX.lookN, SX.findK, SX.evBuiltin, SX.ints, SX.foldI, SX.evBin, SX.evInt, SX.evStr, SX.evEq, SX.arith, SX.evLoad, SX.shapeUp, SX.evFieldAddr, SX.evField, SX.evIndexAddr, SX.evIndex, SX.evFill, SX.evBuild, SX.szs, SX.cellsV, SX.evNew, SX.evStore, SX.spliceL, SX.SV.cells, SX.evConv, SX.evSlice, SX.bnd, SX.evNil, SX.evUn, SX.evPick, SX.pickOpd, SX.popTo, SX.cnd, SX.env0, SX.TD.isAgg, SX.TD.isIface, SX.tails, SX.NotAgg, SX.evLookup, SX.evConvH, SX.evPtrEq, SX.isCells, SX.thaw, SX.frz, SX.fixB, SX.rootIx, SX.Froz, SX.frzStep, SX.fork, Go.Value.cells, Go.undef, cfg17, hGd, tabC]
  refine ⟨by (unfold SX.Ob; first | trivial | omega | ((try simp only [SX.inK]); (try simp [SX.den, SX.IsU8, SX.AllP, *]); (try omega))), ?_⟩
  intro a3 w3 hr3 _
  refine post_call 40 [.ag [.v (.int .i64 t.last), .v (.int .i64 t.now), .v (.slice ad t.L.length cp)], .v (.int .i64 key)] hr3 (by first | exact wanted_none rfl | exact wanted_zero (hr3.env.same rfl rfl rfl rfl) rfl (by simp) | exact wanted_zero (hr3.env.same rfl rfl rfl rfl) rfl (by simp [*])) rfl (callable 40 Try.func40) (find_ok w3 _ t key (hL.below hr3.keeps.toBelow) (by omega)) ?_
  rintro e4 w4 ⟨i, rfl, hpl, hb4⟩
  refine ⟨_, rfl, ?_⟩
  have h4 := hr3.ret hb4 22 (.tu [.v (.int .i64 i), .v (.bool (isAt t.L key i))]) rfl _ (hr3.all.below hb4) (by simp) rfl
  have hat := place_has hpl hsr
  by_cases hH : HasK t.L key
  rotate_left
  · have hE : renE t key host epoch ttl = 4 := by rw [renE, if_pos hGd, if_neg hH]
    have hT : renT t key host epoch ttl = tab0 := if_neg (by omega)
    have hat' : isAt t.L key i = false := by rw [hat]; simpa using hH
    refine seg cfg17_ok mixed PanicFree.body 1000 [true] [] h4 (by first | trivial | exact HpRep.nil | assumption) (by kernel_rfl) fun s_ hs_ => ?_
    simp (maxSteps := 10000000) [SX.vc, SX.stop, SX.contS, SX.contB, SX.contW, SX.contR, SX.contD, SX.sxStep, SX.stepPure, SX.stepNew, SX.stepStore, SX.stepKeep, SX.guardIx, SX.evOp, SX.opd, SX.opds, SX.optOpd, SX.look, SX.putS, SX.gobs, SX.AllP, SX.leave, SX.lookC, SX.lookB, SX.lookT, SX.lookN, SX.findK, SX.evBuiltin, SX.ints, SX.foldI, SX.evBin, SX.evInt, SX.evStr, SX.evEq, SX.arith, SX.evLoad, SX.shapeUp, SX.evFieldAddr, SX.evField, SX.evIndexAddr, SX.evIndex, SX.evFill, SX.evBuild, SX.szs, SX.cellsV, SX.evNew, SX.evStore, SX.spliceL, SX.SV.cells, SX.evConv, SX.evSlice, SX.bnd, SX.evNil, SX.evUn, SX.evPick, SX.pickOpd, SX.popTo, SX.cnd, SX.env0, SX.TD.isAgg, SX.TD.isIface, SX.tails, SX.NotAgg, SX.evLookup, SX.evConvH, SX.evPtrEq, SX.isCells, SX.thaw, SX.frz, SX.fixB, SX.rootIx, SX.Froz, SX.frzStep, SX.fork, Go.Value.cells, Go.undef, cfg17, hat']
    refine ⟨by (unfold SX.Ob; first | trivial | omega | ((try simp only [SX.inK]); (try simp [SX.den, SX.IsU8, SX.AllP, *]); (try omega))), ?_⟩
    intro a5 w5 hr5 _
    exact post_retn (endC2 hr5 rfl rfl rfl tok24 rfl rfl ⟨.slice none 0 0, by rw [hE, hT]; simp [den, denL, tabC, tab0], by rw [hT]; exact OwS.nil.rd, hr5.keeps.toBelow⟩).1
  have hat' : isAt t.L key i = true := by rw [hat]; simpa using hH
  have hik : i < t.L.length ∧ (nth lse0 t.L i).k = key := by simpa [isAt] using hat'
  have hgk := getK_at hsr hik.1 hik.2
  have hup := place_up (m := t.now + ttl) hsr hik.1 hik.2
  obtain ⟨b, o0, cap, u, fz, hP, hv, hrep⟩ := hL.opn hik.1
  cases hv
  have hbw := SO.rep_lt hrep
  obtain ⟨x, hx⟩ : ∃ x, nth lse0 t.L i = x := ⟨_, rfl⟩
  rw [hx] at hgk hup
  have hA4 := h4.all
  have hrep4 := SO.rep_same hrep (h4.keeps.toBelow.block _ hbw)
  have hil := hik.1
  have h5 := h4.see [(sA, true, .cells [.v (.int .i64 t.last), .v (.int .i64 t.now), .sl 2 b o0 0 t.L.length cp 4] 24), (sA + 1, true, .cells [.v (.int .i64 0), .v (.int .i64 0), .v (.slice none 0 0)] 24), (b, false, .arr o0 t.L.length (fun j => lseC (nth lse0 t.L j)) 4 u fz)] ⟨⟨by simpa [SO.rep, denL, den] using hA4.1.1, hA4.1.2.1, by simp; omega⟩, ⟨hA4.2.1.1, hA4.2.1.2.1, by simp; omega⟩, HpAll.one hrep4⟩
  by_cases c1 : x.h = host
  rotate_left
  · have hE : renE t key host epoch ttl = 61 := by rw [renE, if_pos hGd, if_pos hH, if_neg (by rw [hgk]; exact fun h => c1 h.1)]
    have hT : renT t key host epoch ttl = tab0 := if_neg (by omega)
    refine seg cfg17_ok mixed PanicFree.body 1000 [false, true, true] [] h5 (by first | trivial | exact HpRep.nil | assumption) (by kernel_rfl) fun s_ hs_ => ?_
    simp (maxSteps := 10000000) [SX.vc, SX.stop, SX.contS, SX.contB, SX.contW, SX.contR, SX.contD, SX.sxStep, SX.stepPure, SX.stepNew, SX.stepStore, SX.stepKeep, SX.guardIx, SX.evOp, SX.opd, SX.opds, SX.optOpd, SX.look, SX.putS, SX.gobs, SX.AllP, SX.leave, SX.lookC, SX.lookB, SX.lookT, SX.lookN, SX.findK, SX.evBuiltin, SX.ints, SX.foldI, SX.evBin, SX.evInt, SX.evStr, SX.evEq, SX.arith, SX.evLoad, SX.shapeUp, SX.evFieldAddr, SX.evField, SX.evIndexAddr, SX.evIndex, SX.evFill, SX.evBuild, SX.szs, SX.cellsV, SX.evNew, SX.evStore, SX.spliceL, SX.SV.cells, SX.evConv, SX.evSlice, SX.bnd, SX.evNil, SX.evUn, SX.evPick, SX.pickOpd, SX.popTo, SX.cnd, SX.env0, SX.TD.isAgg, SX.TD.isIface, SX.tails, SX.NotAgg, SX.evLookup, SX.evConvH, SX.evPtrEq, SX.isCells, SX.thaw, SX.frz, SX.fixB, SX.rootIx, SX.Froz, SX.frzStep, SX.fork, Go.Value.cells, Go.undef, cfg17, hat', lseC, hx, c1, hil]
    refine ⟨by (unfold SX.Ob; first | trivial | omega | ((try simp only [SX.inK]); (try simp [SX.den, SX.IsU8, SX.AllP, *]); (try omega))), ?_⟩
    intro a6 w6 hr6 _
    exact post_retn (endC2 hr6 rfl rfl rfl tok24 rfl rfl ⟨.slice none 0 0, by rw [hE, hT]; simp [den, denL, tabC, tab0], by rw [hT]; exact OwS.nil.rd, hr6.keeps.toBelow⟩).1
  by_cases c2 : x.e = epoch
  rotate_left
  · have hE : renE t key host epoch ttl = 61 := by rw [renE, if_pos hGd, if_pos hH, if_neg (by rw [hgk]; exact fun h => c2 h.2)]
    have hT : renT t key host epoch ttl = tab0 := if_neg (by omega)
    refine seg cfg17_ok mixed PanicFree.body 1000 [false, false, true] [] h5 (by first | trivial | exact HpRep.nil | assumption) (by kernel_rfl) fun s_ hs_ => ?_
    simp (maxSteps := 10000000) [SX.vc, SX.stop, SX.contS, SX.contB, SX.contW, SX.contR, SX.contD, SX.sxStep, SX.stepPure, SX.stepNew, SX.stepStore, SX.stepKeep, SX.guardIx, SX.evOp, SX.opd, SX.opds, SX.optOpd, SX.look, SX.putS, SX.gobs, SX.AllP, SX.leave, SX.lookC, SX.lookB, SX.lookT, SX.lookN, SX.findK, SX.evBuiltin, SX.ints, SX.foldI, SX.evBin, SX.evInt, SX.evStr, SX.evEq, SX.arith, SX.evLoad, SX.shapeUp, SX.evFieldAddr, SX.evField, SX.evIndexAddr, SX.evIndex, SX.evFill, SX.evBuild, SX.szs, SX.cellsV, SX.evNew, SX.evStore, SX.spliceL, SX.SV.cells, SX.evConv, SX.evSlice, SX.bnd, SX.evNil, SX.evUn, SX.evPick, SX.pickOpd, SX.popTo, SX.cnd, SX.env0, SX.TD.isAgg, SX.TD.isIface, SX.tails, SX.NotAgg, SX.evLookup, SX.evConvH, SX.evPtrEq, SX.isCells, SX.thaw, SX.frz, SX.fixB, SX.rootIx, SX.Froz, SX.frzStep, SX.fork, Go.Value.cells, Go.undef, cfg17, hat', lseC, hx, c1, c2, hil]
    refine ⟨by (unfold SX.Ob; first | trivial | omega | ((try simp only [SX.inK]); (try simp [SX.den, SX.IsU8, SX.AllP, *]); (try omega))), ?_⟩
    intro a6 w6 hr6 _
    exact post_retn (endC2 hr6 rfl rfl rfl tok24 rfl rfl ⟨.slice none 0 0, by rw [hE, hT]; simp [den, denL, tabC, tab0], by rw [hT]; exact OwS.nil.rd, hr6.keeps.toBelow⟩).1
  have hE : renE t key host epoch ttl = 0 := by rw [renE, if_pos hGd, if_pos hH, if_pos (by rw [hgk]; exact ⟨c1, c2⟩)]
  have hT : renT t key host epoch ttl = ⟨t.last, t.now, t.L.map (upK key (t.now + ttl))⟩ := if_pos hE
  refine seg cfg17_ok mixed PanicFree.body 1000 [false, false, false] [] h5 (by first | trivial | exact HpRep.nil | assumption) (by kernel_rfl) fun s_ hs_ => ?_
  simp (maxSteps := 10000000) [SX.vc, SX.stop, SX.contS, SX.contB, SX.contW, SX.contR, SX.contD, SX.sxStep, SX.stepPure, SX.stepNew, SX.stepStore, SX.stepKeep, SX.guardIx, SX.evOp, SX.opd, SX.opds, SX.optOpd, SX.look, SX.putS, SX.gobs, SX.AllP, SX.leave, SX.lookC, SX.lookB, SX.lookT, SX.lookN, SX.findK, SX.evBuiltin, SX.ints, SX.foldI, SX.evBin, SX.evInt, SX.evStr, SX.evEq, SX.arith, SX.evLoad, SX.shapeUp, SX.evFieldAddr, SX.evField, SX.evIndexAddr, SX.evIndex, SX.evFill, SX.evBuild, SX.szs, SX.cellsV, SX.evNew, SX.evStore, SX.spliceL, SX.SV.cells, SX.evConv, SX.evSlice, SX.bnd, SX.evNil, SX.evUn, SX.evPick, SX.pickOpd, SX.popTo, SX.cnd, SX.env0, SX.TD.isAgg, SX.TD.isIface, SX.tails, SX.NotAgg, SX.evLookup, SX.evConvH, SX.evPtrEq, SX.isCells, SX.thaw, SX.frz, SX.fixB, SX.rootIx, SX.Froz, SX.frzStep, SX.fork, Go.Value.cells, Go.undef, cfg17, hat', lseC, hx, c1, c2, hil]
  refine ⟨by (unfold SX.Ob; first | trivial | omega | ((try simp only [SX.inK]); (try simp [SX.den, SX.IsU8, SX.AllP, *]); (try omega))), ?_⟩
  intro a6 w6 hr6 _
  have hA6 := hr6.all
  have z6 : w.heap.size ≤ w6.heap.size := hr6.keeps.size
  refine post_call 42 [.sl 2 b o0 0 t.L.length cp 4] hr6 (by first | exact wanted_none rfl | exact wanted_zero (hr6.env.same rfl rfl rfl rfl) rfl (by simp) | exact wanted_zero (hr6.env.same rfl rfl rfl rfl) rfl (by simp [*])) rfl (callable 42 Try.func42) ((by simpa [denL, den] using clone_all w6 _ t.L (hL.below hr6.keeps.toBelow) (by omega))) ?_
  rintro e7 w7 ⟨v6, rfl, hO7, hb7⟩
  refine ⟨_, rfl, ?_⟩
  have h7 := hr6.ret hb7 49 (.v v6) rfl _ (hr6.all.below hb7) (by simp) rfl
  obtain ⟨bC, N, capC, uC, row, hPC, rfl, hc0, hc1, hc2, hrepC, hrowC⟩ := hO7.opn hik.1
  have hA7 := h7.all
  have k0 := SO.rep_lt hA6.1.1
  have k1 := SO.rep_lt hA6.2.1.1
  have hri : row i = [.v (.int .i64 x.k), .v (.int .i64 x.h), .v (.int .i64 x.e), .v (.int .i64 x.u)] := by rw [hrowC i hil, hx]; rfl
  have hiN : i < N := by omega
  have h8 := (h7.top 49 (.sl 2 bC 0 0 t.L.length capC 4) rfl (by simp [den])).see [(sA, true, .cells [.v (.int .i64 t.last), .v (.int .i64 t.now), .v (.slice (some ⟨b, o0, none⟩) t.L.length cp)] 24), (sA + 1, true, .cells [.v (.int .i64 0), .v (.int .i64 0), .v (.slice none 0 0)] 24), (bC, true, .arr 0 N row 4 uC (0, 0))] ⟨⟨by simpa [SO.rep, denL, den] using hA7.1.1, hA7.1.2.1, by simp; omega⟩, ⟨hA7.2.1.1, hA7.2.1.2.1, by simp; omega⟩, ⟨hrepC, fun _ => .inl (Nat.le_trans z6 hPC), by simp⟩, trivial⟩
  obtain ⟨q, hq⟩ : ∃ q, (if x.u < t.now + ttl then t.now + ttl else x.u) = q := ⟨_, rfl⟩
  refine seg cfg17_ok mixed PanicFree.body 1000 [] [] h8 (by first | trivial | exact HpRep.nil | assumption) (by kernel_rfl) fun s_ hs_ => ?_
  simp (maxSteps := 10000000) [SX.vc, SX.stop, SX.contS, SX.contB, SX.contW, SX.contR, SX.contD, SX.sxStep, SX.stepPure, SX.stepNew, SX.stepStore, SX.stepKeep, SX.guardIx, SX.evOp, SX.opd, SX.opds, SX.optOpd, SX.look, SX.putS, SX.gobs, SX.AllP, SX.leave, SX.lookC, SX.lookB, SX.lookT, SX.lookN, SX.findK, SX.evBuiltin, SX.ints, SX.foldI, SX.evBin, SX.evInt, SX.evStr, SX.evEq, SX.arith, SX.evLoad, SX.shapeUp, SX.evFieldAddr, SX.evField, SX.evIndexAddr, SX.evIndex, SX.evFill, SX.evBuild, SX.szs, SX.cellsV, SX.evNew, SX.evStore, SX.spliceL, SX.SV.cells, SX.evConv, SX.evSlice, SX.bnd, SX.evNil, SX.evUn, SX.evPick, SX.pickOpd, SX.popTo, SX.cnd, SX.env0, SX.TD.isAgg, SX.TD.isIface, SX.tails, SX.NotAgg, SX.evLookup, SX.evConvH, SX.evPtrEq, SX.isCells, SX.thaw, SX.frz, SX.fixB, SX.rootIx, SX.Froz, SX.frzStep, SX.fork, Go.Value.cells, Go.undef, cfg17, hri, hq]
  refine ⟨by (unfold SX.Ob; first | trivial | omega | ((try simp only [SX.inK]); (try simp [SX.den, SX.IsU8, SX.AllP, *]); (try omega))), ?_⟩
  intro a9 w9 hr9 _
  have hA9 := hr9.all
  refine post_retn (endC2 hr9 rfl rfl rfl tok24 rfl rfl ⟨.slice (some ⟨bC, 0, none⟩) t.L.length capC, by rw [hE, hT]; simp [den, denL, tabC], ?_, hr9.keeps.toBelow⟩).1
  rw [hT, ← hup]
  have hmq : maxI x.u (t.now + ttl) = q := hq
  refine .inr ⟨by simp; omega, bC, 0, capC, uC, (0, 0), Nat.le_trans z6 hPC, by simp, rep_arr_sub hA9.2.2.1.1 (by simp; omega) (fun j hj => ?_), by simpa using hc1⟩
  have hj' : j < t.L.length := by simpa using hj
  unfold setRow
  by_cases hji : j = i
  · subst hji
    rw [if_pos rfl, nth_lt (by simpa using hj'), hmq]
    simp [lseC, denL, den]
  · rw [if_neg hji, hrowC j hj', nth_lt hj', nth_lt (by simpa using hj'), List.getElem_set_ne (by omega)]
end Go.Proofs
