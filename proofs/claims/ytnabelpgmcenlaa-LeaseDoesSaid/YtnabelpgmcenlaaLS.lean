/- Leases: the document's Holder; what a step changes. -/
import Derived.Test.YtnabelpgmcenlaaLQ
namespace Go.Proofs
set_option linter.unusedVariables false
set_option linter.unusedSimpArgs false
open Go Go.SX Go.RowKit

theorem find_drop {L : List Lse} {key : Int} : ∀ {k : Nat}, k ≤ L.length → (∀ j, j < k → (nth lse0 L j).k ≠ key) → L.find? (fun x => decide (x.k = key)) = (L.drop k).find? (fun x => decide (x.k = key))
  | 0, _, _ => rfl
  | k + 1, hk, h => by
    rw [find_drop (k := k) (by omega) fun j hj => h j (by omega), drop_nth (d := lse0) (show k < L.length by omega), List.find?_cons_of_neg (by simpa using h k (by omega))]

def RhLoop (w : World) (t : Tab) (v : Value) (key : Int) (sA : Nat) (m : Nat) (a : Act) (w' : World) : Prop :=
  ∃ k : Nat, m = t.L.length - k ∧ k ≤ t.L.length ∧ (∀ j, j < k → (nth lse0 t.L j).k ≠ key) ∧ RepX (frame0 w) ⟨[(15, 0, .v (.int .i64 k)), (14, 0, .v (.int .i64 t.L.length)), (13, 0, .v v), (1, 0, .v (.int .i64 key)), (4, 0, .ptr 0 (sA + 1) 0), (5, 0, .v (.bool false))], [(sA + 1, true, .cells [.v (.int .i64 0), .v (.int .i64 0), .v (.int .i64 0), .v (.int .i64 0)] 33)], 0, 0, 26, [], [], []⟩ a w'

set_option maxRecDepth 100000 in
set_option maxHeartbeats 16000000 in
/-- The document's Holder. -/
theorem rHolder_ok {P : Nat → Prop} (w : World) (v : Value) (t : Tab) (key : Int) (hL : RdL P w v t.L) (hn : t.L.length ≤ 100000) : Calls Try.prog 20 (denL [.ag (tabC t v), .v (.int .i64 key)]).toArray w (HoldR w t key) := by
  refine enter (F := frame0 w) Try.func20 rfl [.ag (tabC t v), .v (.int .i64 key)] [] (by simp [Try.f20]) trivial (keeps0 w) fun a hr => ?_
  obtain ⟨ad, cp, rfl⟩ := hL.slice
  refine seg cfg20_ok mixed PanicFree.body 1000 [] [] hr (by first | trivial | exact HpRep.nil | assumption) (by kernel_rfl) fun sA hsA => ?_
  simp (maxSteps := 10000000) [SX.vc, SX.stop, SX.contS, SX.contB, SX.contW, SX.contR, SX.contD, SX.sxStep, SX.stepPure, SX.stepNew, SX.stepStore, SX.stepKeep, SX.guardIx, SX.evOp, SX.opd, SX.opds, SX.optOpd, SX.look, SX.putS, SX.gobs, SX.AllP, SX.leave, SX.lookC, SX.lookB, SX.lookT, SX.lookN, SX.findK, SX.evBuiltin, SX.ints, SX.foldI, SX.evBin, SX.evInt, SX.evStr, SX.evEq, SX.arith, SX.evLoad, SX.shapeUp, SX.evFieldAddr, SX.evField, SX.evIndexAddr, SX.evIndex, SX.evFill, SX.evBuild, SX.szs, SX.cellsV, SX.evNew, SX.evStore, SX.spliceL, SX.SV.cells, SX.evConv, SX.evSlice, SX.bnd, SX.evNil, SX.evUn, SX.evPick, SX.pickOpd, SX.popTo, SX.cnd, SX.env0, SX.TD.isAgg, SX.TD.isIface, SX.tails, SX.NotAgg, SX.evLookup, SX.evConvH, SX.evPtrEq, SX.isCells, SX.thaw, SX.frz, SX.fixB, SX.rootIx, SX.Froz, SX.frzStep, SX.fork, Go.Value.cells, Go.undef, cfg20, Try.f20, tabC]
  refine ⟨by (unfold SX.Ob; first | trivial | omega | ((try simp only [SX.inK]); (try simp [SX.den, SX.IsU8, SX.AllP, *]); (try omega))), ?_⟩
  intro a1 w1 hr1 _
  refine post_call 11 [.ag [.v (.int .i64 t.last), .v (.int .i64 t.now), .v (.slice ad t.L.length cp)]] hr1 (by first | exact wanted_none rfl | exact wanted_zero (hr1.env.same rfl rfl rfl rfl) rfl (by simp) | exact wanted_zero (hr1.env.same rfl rfl rfl rfl) rfl (by simp [*])) rfl (callable 11 Try.func11) (rcheck_ok w1 _ t (hL.below hr1.keeps.toBelow) (by omega)) ?_
  rintro e2 w2 ⟨rfl, hb2⟩
  refine ⟨_, rfl, ?_⟩
  have h2 := hr1.ret hb2 9 (.v (.int .i64 (chkT t))) rfl _ (hr1.all.below hb2) (by simp) rfl
  by_cases hC : ChkT t
  rotate_left
  · have hc : chkT t = 1 := if_neg hC
    have hno : ¬ HasT t key := fun h => hC h.1
    have hX : holdX t key = lse0 := if_neg hno
    refine seg cfg20_ok mixed PanicFree.body 1000 [true] [] h2 (by first | trivial | exact HpRep.nil | assumption) (by kernel_rfl) fun s_ hs_ => ?_
    simp (maxSteps := 10000000) [SX.vc, SX.stop, SX.contS, SX.contB, SX.contW, SX.contR, SX.contD, SX.sxStep, SX.stepPure, SX.stepNew, SX.stepStore, SX.stepKeep, SX.guardIx, SX.evOp, SX.opd, SX.opds, SX.optOpd, SX.look, SX.putS, SX.gobs, SX.AllP, SX.leave, SX.lookC, SX.lookB, SX.lookT, SX.lookN, SX.findK, SX.evBuiltin, SX.ints, SX.foldI, SX.evBin, SX.evInt, SX.evStr, SX.evEq, SX.arith, SX.evLoad, SX.shapeUp, SX.evFieldAddr, SX.evField, SX.evIndexAddr, SX.evIndex, SX.evFill, SX.evBuild, SX.szs, SX.cellsV, SX.evNew, SX.evStore, SX.spliceL, SX.SV.cells, SX.evConv, SX.evSlice, SX.bnd, SX.evNil, SX.evUn, SX.evPick, SX.pickOpd, SX.popTo, SX.cnd, SX.env0, SX.TD.isAgg, SX.TD.isIface, SX.tails, SX.NotAgg, SX.evLookup, SX.evConvH, SX.evPtrEq, SX.isCells, SX.thaw, SX.frz, SX.fixB, SX.rootIx, SX.Froz, SX.frzStep, SX.fork, Go.Value.cells, Go.undef, cfg20, hc]
    refine ⟨by (unfold SX.Ob; first | trivial | omega | ((try simp only [SX.inK]); (try simp [SX.den, SX.IsU8, SX.AllP, *]); (try omega))), ?_⟩
    intro a3 w3 hr3 _
    exact post_retn (endC2 hr3 rfl rfl rfl tok33 rfl rfl ⟨by rw [hX, decide_eq_false hno]; simp [den, denL, lseC, lse0], hr3.keeps.toBelow⟩).1
  have hc : chkT t = 0 := if_pos hC
  refine seg cfg20_ok mixed PanicFree.body 1000 [false] [] h2 (by first | trivial | exact HpRep.nil | assumption) (by kernel_rfl) fun s_ hs_ => ?_
  simp (maxSteps := 10000000) [SX.vc, SX.stop, SX.contS, SX.contB, SX.contW, SX.contR, SX.contD, SX.sxStep, SX.stepPure, SX.stepNew, SX.stepStore, SX.stepKeep, SX.guardIx, SX.evOp, SX.opd, SX.opds, SX.optOpd, SX.look, SX.putS, SX.gobs, SX.AllP, SX.leave, SX.lookC, SX.lookB, SX.lookT, SX.lookN, SX.findK, SX.evBuiltin, SX.ints, SX.foldI, SX.evBin, SX.evInt, SX.evStr, SX.evEq, SX.arith, SX.evLoad, SX.shapeUp, SX.evFieldAddr, SX.evField, SX.evIndexAddr, SX.evIndex, SX.evFill, SX.evBuild, SX.szs, SX.cellsV, SX.evNew, SX.evStore, SX.spliceL, SX.SV.cells, SX.evConv, SX.evSlice, SX.bnd, SX.evNil, SX.evUn, SX.evPick, SX.pickOpd, SX.popTo, SX.cnd, SX.env0, SX.TD.isAgg, SX.TD.isIface, SX.tails, SX.NotAgg, SX.evLookup, SX.evConvH, SX.evPtrEq, SX.isCells, SX.thaw, SX.frz, SX.fixB, SX.rootIx, SX.Froz, SX.frzStep, SX.fork, Go.Value.cells, Go.undef, cfg20, hc]
  refine ⟨by (unfold SX.Ob; first | trivial | omega | ((try simp only [SX.inK]); (try simp [SX.den, SX.IsU8, SX.AllP, *]); (try omega))), ?_⟩
  intro a3 w3 hr3 _
  have hA3 := hr3.all
  have h4 := (hr3.top 4 (.ptr 0 (sA + 1) 0) rfl (by simp [den])).see [(sA + 1, true, .cells [.v (.int .i64 0), .v (.int .i64 0), .v (.int .i64 0), .v (.int .i64 0)] 33)] ⟨⟨hA3.2.1.1, hA3.2.1.2.1, by simp⟩, trivial⟩
  refine post_loop (RhLoop w t (.slice ad t.L.length cp) key sA) t.L.length ⟨0, rfl, by omega, by omega, h4.re (by simp [envTo, SX.look, den]) h4.all rfl rfl⟩ ?_
  rintro m a5 w5 ⟨k, rfl, hk, hno, hr5⟩
  have hA5 := hr5.all
  by_cases hlt : k < t.L.length
  · obtain ⟨b, o0, cap, u, fz, hP, hv, hrep⟩ := hL.opn hlt
    cases hv
    have hbw := SO.rep_lt hrep
    have hrep5 := SO.rep_same hrep (hr5.keeps.toBelow.block _ hbw)
    obtain ⟨x, hx⟩ : ∃ x, nth lse0 t.L k = x := ⟨_, rfl⟩
    have hsA : b ≠ sA + 1 := by omega
    have h6 := (hr5.top 13 (.sl 1 b o0 0 t.L.length cp 4) rfl (by simp [den])).see [(sA + 1, true, .cells [.v (.int .i64 0), .v (.int .i64 0), .v (.int .i64 0), .v (.int .i64 0)] 33), (b, false, .arr o0 t.L.length (fun j => lseC (nth lse0 t.L j)) 4 u fz)] ⟨⟨hA5.1.1, hA5.1.2.1, by simp; omega⟩, HpAll.one hrep5⟩
    by_cases hxk : x.k = key
    · have hget : getK t.L key = x := by
        unfold getK
        rw [find_drop hk hno, drop_nth (d := lse0) hlt, hx, List.find?_cons_of_pos (by simpa using hxk)]
        rfl
      have hyes : HasT t key := ⟨hC, x, hx ▸ nth_mem hlt, hxk⟩
      have hX : holdX t key = x := by rw [holdX, if_pos hyes, hget]
      refine seg cfg20_ok mixed PanicFree.body 1000 [true, true] [] h6 (by first | trivial | exact HpRep.nil | assumption) (by kernel_rfl) fun s_ hs_ => ?_
      simp (maxSteps := 10000000) [SX.vc, SX.stop, SX.contS, SX.contB, SX.contW, SX.contR, SX.contD, SX.sxStep, SX.stepPure, SX.stepNew, SX.stepStore, SX.stepKeep, SX.guardIx, SX.evOp, SX.opd, SX.opds, SX.optOpd, SX.look, SX.putS, SX.gobs, SX.AllP, SX.leave, SX.lookC, SX.lookB, SX.lookT, SX.lookN, SX.findK, SX.evBuiltin, SX.ints, SX.foldI, SX.evBin, SX.evInt, SX.evStr, SX.evEq, SX.arith, SX.evLoad, SX.shapeUp, SX.evFieldAddr, SX.evField, SX.evIndexAddr, SX.evIndex, SX.evFill, SX.evBuild, SX.szs, SX.cellsV, SX.evNew, SX.evStore, SX.spliceL, SX.SV.cells, SX.evConv, SX.evSlice, SX.bnd, SX.evNil, SX.evUn, SX.evPick, SX.pickOpd, SX.popTo, SX.cnd, SX.env0, SX.TD.isAgg, SX.TD.isIface, SX.tails, SX.NotAgg, SX.evLookup, SX.evConvH, SX.evPtrEq, SX.isCells, SX.thaw, SX.frz, SX.fixB, SX.rootIx, SX.Froz, SX.frzStep, SX.fork, Go.Value.cells, Go.undef, cfg20, lseC, hx, hxk]
      refine ⟨by (unfold SX.Ob; first | trivial | omega | ((try simp only [SX.inK]); (try simp [SX.den, SX.IsU8, SX.AllP, *]); (try omega))), ?_⟩
      intro a7 w7 hr7 _
      exact post_retn (endC2 hr7 rfl rfl rfl tok33 rfl rfl ⟨by rw [hX, decide_eq_true hyes]; simp [den, denL, lseC, hxk], hr7.keeps.toBelow⟩).1
    · refine seg cfg20_ok mixed PanicFree.body 1000 [true, false] [] h6 (by first | trivial | exact HpRep.nil | assumption) (by kernel_rfl) fun s_ hs_ => ?_
      simp (maxSteps := 10000000) [SX.vc, SX.stop, SX.contS, SX.contB, SX.contW, SX.contR, SX.contD, SX.sxStep, SX.stepPure, SX.stepNew, SX.stepStore, SX.stepKeep, SX.guardIx, SX.evOp, SX.opd, SX.opds, SX.optOpd, SX.look, SX.putS, SX.gobs, SX.AllP, SX.leave, SX.lookC, SX.lookB, SX.lookT, SX.lookN, SX.findK, SX.evBuiltin, SX.ints, SX.foldI, SX.evBin, SX.evInt, SX.evStr, SX.evEq, SX.arith, SX.evLoad, SX.shapeUp, SX.evFieldAddr, SX.evField, SX.evIndexAddr, SX.evIndex, SX.evFill, SX.evBuild, SX.szs, SX.cellsV, SX.evNew, SX.evStore, SX.spliceL, SX.SV.cells, SX.evConv, SX.evSlice, SX.bnd, SX.evNil, SX.evUn, SX.evPick, SX.pickOpd, SX.popTo, SX.cnd, SX.env0, SX.TD.isAgg, SX.TD.isIface, SX.tails, SX.NotAgg, SX.evLookup, SX.evConvH, SX.evPtrEq, SX.isCells, SX.thaw, SX.frz, SX.fixB, SX.rootIx, SX.Froz, SX.frzStep, SX.fork, Go.Value.cells, Go.undef, cfg20, lseC, hx, hxk]
      refine ⟨by (unfold SX.Ob; first | trivial | omega | ((try simp only [SX.inK]); (try simp [SX.den, SX.IsU8, SX.AllP, *]); (try omega))), ?_⟩
      intro a7 w7 hr7 _
      exact post_rnd (t.L.length - (k + 1)) (by omega) ⟨k + 1, rfl, hlt, fun j hj => (by
        rcases Nat.lt_or_ge j k with h | h
        · exact hno j h
        · obtain rfl : j = k := by omega
          rw [hx]; exact hxk), hr7.re (by simp [envTo, SX.look, den]) (hr7.all.take 1) rfl rfl⟩
  · obtain rfl : k = t.L.length := by omega
    have hn' : ¬ HasT t key := fun ⟨_, x, hx, hxk⟩ => by
      obtain ⟨j, hj, rfl⟩ := List.mem_iff_getElem.1 hx
      have := hno j hj
      rw [nth_lt hj] at this
      exact this hxk
    have hX : holdX t key = lse0 := if_neg hn'
    refine seg cfg20_ok mixed PanicFree.body 1000 [false] [] hr5 (by first | trivial | exact HpRep.nil | assumption) (by kernel_rfl) fun s_ hs_ => ?_
    simp (maxSteps := 10000000) [SX.vc, SX.stop, SX.contS, SX.contB, SX.contW, SX.contR, SX.contD, SX.sxStep, SX.stepPure, SX.stepNew, SX.stepStore, SX.stepKeep, SX.guardIx, SX.evOp, SX.opd, SX.opds, SX.optOpd, SX.look, SX.putS, SX.gobs, SX.AllP, SX.leave, SX.lookC, SX.lookB, SX.lookT, SX.lookN, SX.findK, SX.evBuiltin, SX.ints, SX.foldI, SX.evBin, SX.evInt, SX.evStr, SX.evEq, SX.arith, SX.evLoad, SX.shapeUp, SX.evFieldAddr, SX.evField, SX.evIndexAddr, SX.evIndex, SX.evFill, SX.evBuild, SX.szs, SX.cellsV, SX.evNew, SX.evStore, SX.spliceL, SX.SV.cells, SX.evConv, SX.evSlice, SX.bnd, SX.evNil, SX.evUn, SX.evPick, SX.pickOpd, SX.popTo, SX.cnd, SX.env0, SX.TD.isAgg, SX.TD.isIface, SX.tails, SX.NotAgg, SX.evLookup, SX.evConvH, SX.evPtrEq, SX.isCells, SX.thaw, SX.frz, SX.fixB, SX.rootIx, SX.Froz, SX.frzStep, SX.fork, Go.Value.cells, Go.undef, cfg20]
    refine ⟨by (unfold SX.Ob; first | trivial | omega | ((try simp only [SX.inK]); (try simp [SX.den, SX.IsU8, SX.AllP, *]); (try omega))), ?_⟩
    intro a7 w7 hr7 _
    exact post_retn (endC2 hr7 rfl rfl rfl tok33 rfl rfl ⟨by rw [hX, decide_eq_false hn']; simp [den, denL, lseC, lse0], hr7.keeps.toBelow⟩).1

theorem chkT_tick {t : Tab} {n : Int} (h : TickOK t n) : ChkT ⟨t.last, n, t.L.filter fun x => decide (n < x.u)⟩ := by
  obtain ⟨hC, hle⟩ := h
  rw [chkT_iff] at hC ⊢
  obtain ⟨c1, c2, c3, c4⟩ := hC
  refine ⟨fun y hy => ?_, c2.filter _, c3, by show 0 ≤ n; omega⟩
  obtain ⟨h1, h2⟩ := List.mem_filter.1 hy
  obtain ⟨b1, b2, b3, b4, b5, b6⟩ := c1 y h1
  exact ⟨b1, b2, b3, b4, b5, by simpa using h2⟩

/-- What a step changes. -/
theorem body_once {t : Tab} {o : Opr} (hC : ChkT t) (hE : bodyE t o = 0) (ha : o.d = 0 → o.a ≤ 1152921504606846976) (hnow : t.now ≤ 1152921504606846976) :
    ChkT (bodyT t o) ∧ (bodyT t o).last = t.last + (if o.d = 1 then 1 else 0) ∧ t.now ≤ (bodyT t o).now ∧ (bodyT t o).now ≤ 1152921504606846976 ∧ (o.d = 1 → ¬ HasT t o.a ∧ bodyX t o = [⟨o.a, o.b, t.last + 1, t.now + o.c⟩]) := by
  by_cases d0 : o.d = 0
  · have e1 : bodyE t o = tickE t o.a := if_pos d0
    have e2 : bodyT t o = tickT t o.a := if_pos d0
    rw [e1] at hE
    have hOK : TickOK t o.a := by
      unfold tickE at hE
      split at hE
      · assumption
      · omega
    rw [e2, show tickT t o.a = ⟨t.last, o.a, t.L.filter fun x => decide (o.a < x.u)⟩ from if_pos hOK]
    refine ⟨chkT_tick hOK, by rw [if_neg (by omega)]; show t.last = t.last + 0; omega, hOK.2, ha d0, fun h => by omega⟩
  by_cases d1 : o.d = 1
  · have e1 : bodyE t o = grantE t o.a o.b o.c := by rw [bodyE, if_neg d0, if_pos d1]
    have e2 : bodyT t o = grantT t o.a o.b o.c := by rw [bodyT, if_neg d0, if_pos d1]
    have e3 : bodyX t o = [grantX t o.a o.b o.c] := by rw [bodyX, if_neg d0, if_pos d1]
    rw [e1] at hE
    have hOK : GrantOK t o.a o.b o.c ∧ ¬ HasK t.L o.a := by
      have hE' := hE
      unfold grantE at hE'
      split at hE'
      · rename_i h
        split at hE'
        · omega
        · exact ⟨h, by assumption⟩
      · omega
    rw [e2, e3, show grantT t o.a o.b o.c = ⟨t.last + 1, t.now, insK (newX t o.a o.b o.c) t.L⟩ from if_pos hE, show grantX t o.a o.b o.c = newX t o.a o.b o.c from if_pos hE]
    exact ⟨chkT_grant hOK.1, by rw [if_pos d1], Int.le_refl _, hnow, fun _ => ⟨fun h => hOK.2 h.2, rfl⟩⟩
  have h1 : (if o.d = 1 then (1 : Int) else 0) = 0 := if_neg d1
  rw [h1]
  by_cases d2 : o.d = 2
  · have e1 : bodyE t o = renE t o.a o.b o.x o.c := by rw [bodyE, if_neg d0, if_neg d1, if_pos d2]
    have e2 : bodyT t o = renT t o.a o.b o.x o.c := by rw [bodyT, if_neg d0, if_neg d1, if_pos d2]
    rw [e1] at hE
    rw [e2, show renT t o.a o.b o.x o.c = ⟨t.last, t.now, t.L.map (upK o.a (t.now + o.c))⟩ from if_pos hE]
    exact ⟨chkT_ren hC, by show t.last = t.last + 0; omega, Int.le_refl _, hnow, fun h => absurd h d1⟩
  by_cases d3 : o.d = 3
  · have e1 : bodyE t o = revE t o.a := by rw [bodyE, if_neg d0, if_neg d1, if_neg d2, if_pos d3]
    have e2 : bodyT t o = revT t o.a := by rw [bodyT, if_neg d0, if_neg d1, if_neg d2, if_pos d3]
    rw [e1] at hE
    rw [e2, show revT t o.a = ⟨t.last, t.now, delK o.a t.L⟩ from if_pos hE]
    exact ⟨chkT_del hC, by show t.last = t.last + 0; omega, Int.le_refl _, hnow, fun h => absurd h d1⟩
  · have e2 : bodyT t o = t := by rw [bodyT, if_neg d0, if_neg d1, if_neg d2, if_neg d3]
    rw [e2]
    exact ⟨hC, by omega, Int.le_refl _, hnow, fun h => absurd h d1⟩
end Go.Proofs
