/- Extents: slices put together. -/
import Derived.Test.YtpbihcfmjnidbaaEG
import Derived.Test.YtpbihcfmjnidbaaSxO
namespace Go.Proofs
set_option linter.unusedVariables false
set_option linter.unusedSimpArgs false
open Go Go.SX Go.RowKit

set_option maxRecDepth 100000 in
set_option maxHeartbeats 8000000 in
/-- Grow of nil. -/
theorem grow_ok (w : World) (n : Nat) (hn : n ≤ 1000000) : Calls Try.prog 38 (denL [.v (.slice none 0 0), .v (.int .i64 n)]).toArray w (LstPost w []) := by
  refine enter (F := frame0 w) Try.func38 rfl [.v (.slice none 0 0), .v (.int .i64 n)] [] (by simp [Try.f38]) trivial (keeps0 w) fun a hr => ?_
  have hneg : ¬ (n : Int) < 0 := by omega
  rcases Nat.eq_zero_or_pos n with rfl | h0
  · refine seg cfg38_ok mixed PanicFree.body 1000 [false, false] [] hr (by first | trivial | exact HpRep.nil | assumption) (by kernel_rfl) fun s_ hs_ => ?_
    simp (maxSteps := 10000000) [SX.vc, SX.stop, SX.contS, SX.contB, SX.contW, SX.contR, SX.contD, SX.sxStep, SX.stepPure, SX.stepNew, SX.stepStore, SX.stepKeep, SX.guardIx, SX.evOp, SX.opd, SX.opds, SX.optOpd, SX.look, SX.putS, SX.gobs, SX.AllP, SX.leave, SX.lookC, SX.lookB, SX.lookT, SX.lookN, SX.findK, SX.evBuiltin, SX.ints, SX.foldI, SX.evBin, SX.evInt, SX.evStr, SX.evEq, SX.arith, SX.evLoad, SX.shapeUp, SX.evFieldAddr, SX.evField, SX.evIndexAddr, SX.evIndex, SX.evFill, SX.evBuild, SX.szs, SX.cellsV, SX.evNew, SX.evStore, SX.spliceL, SX.SV.cells, SX.evConv, SX.evSlice, SX.bnd, SX.evNil, SX.evUn, SX.evPick, SX.pickOpd, SX.popTo, SX.cnd, SX.env0, SX.TD.isAgg, SX.TD.isIface, SX.tails, SX.NotAgg, SX.evLookup, SX.evConvH, SX.evPtrEq, SX.isCells, SX.thaw, SX.frz, SX.fixB, SX.rootIx, SX.Froz, SX.frzStep, SX.fork, Go.Value.cells, Go.undef, cfg38, Try.f38]
    refine ⟨by (unfold SX.Ob; first | trivial | omega | ((try simp only [SX.inK]); (try simp [SX.den, SX.IsU8, SX.AllP, *]); (try omega))), ?_⟩
    intro a1 w1 hr1 _
    exact post_retn (end1 hr1 rfl rfl ⟨_, rfl, OwS.nil, hr1.keeps.toBelow⟩).1
  · have hpos : 0 < (n : Int) := by omega
    refine seg cfg38_ok mixed PanicFree.body 1000 [false, true] [] hr (by first | trivial | exact HpRep.nil | assumption) (by kernel_rfl) fun s_ hs_ => ?_
    simp (maxSteps := 10000000) [SX.vc, SX.stop, SX.contS, SX.contB, SX.contW, SX.contR, SX.contD, SX.sxStep, SX.stepPure, SX.stepNew, SX.stepStore, SX.stepKeep, SX.guardIx, SX.evOp, SX.opd, SX.opds, SX.optOpd, SX.look, SX.putS, SX.gobs, SX.AllP, SX.leave, SX.lookC, SX.lookB, SX.lookT, SX.lookN, SX.findK, SX.evBuiltin, SX.ints, SX.foldI, SX.evBin, SX.evInt, SX.evStr, SX.evEq, SX.arith, SX.evLoad, SX.shapeUp, SX.evFieldAddr, SX.evField, SX.evIndexAddr, SX.evIndex, SX.evFill, SX.evBuild, SX.szs, SX.cellsV, SX.evNew, SX.evStore, SX.spliceL, SX.SV.cells, SX.evConv, SX.evSlice, SX.bnd, SX.evNil, SX.evUn, SX.evPick, SX.pickOpd, SX.popTo, SX.cnd, SX.env0, SX.TD.isAgg, SX.TD.isIface, SX.tails, SX.NotAgg, SX.evLookup, SX.evConvH, SX.evPtrEq, SX.isCells, SX.thaw, SX.frz, SX.fixB, SX.rootIx, SX.Froz, SX.frzStep, SX.fork, Go.Value.cells, Go.undef, cfg38, Try.f38, hneg, hpos]
    refine ⟨by (unfold SX.Ob; first | trivial | omega | ((try simp only [SX.inK]); (try simp [SX.den, SX.IsU8, SX.AllP, *]); (try omega))), ?_⟩
    intro a1 w1 hr1 _
    have z1 : w.heap.size ≤ w1.heap.size := hr1.keeps.size
    refine post_appMake (C := cfg38) (enc := extC) (sz := 5) (d := ext0) (L := []) (Pb := fun x => w.heap.size ≤ x) cfg38_ok hr1 (wanted_none rfl) rfl (by simp) rfl rfl rfl rfl rfl rfl rfl rfl rfl (by decide) rfl (by decide) (flatE [ext0] ext0 (by simp)) h0 (by simp only [List.length_nil]; omega) (by omega) (fun x hx => Nat.le_trans z1 hx) OwS.nil [] (fun _ _ _ _ => trivial) (fun x hx => .inl hx) fun V2 a2 w2 B2 hO2 hB2 hk2 hr2 => ?_
    obtain ⟨b, N, cap, u, row, hP, hv, hc0, hc1, hc2, hrep, hrow⟩ := hO2.opn (k := 0) (by simpa using h0)
    subst hv
    have h3 := hr2.top 22 (.sl 0 b 0 0 n cap 5) rfl (by simp [den])
    refine seg cfg38_ok mixed PanicFree.body 1000 [] [] h3.rebase (by first | trivial | exact HpRep.nil | assumption) (by kernel_rfl) fun s_ hs_ => ?_
    simp (maxSteps := 10000000) [SX.vc, SX.stop, SX.contS, SX.contB, SX.contW, SX.contR, SX.contD, SX.sxStep, SX.stepPure, SX.stepNew, SX.stepStore, SX.stepKeep, SX.guardIx, SX.evOp, SX.opd, SX.opds, SX.optOpd, SX.look, SX.putS, SX.gobs, SX.AllP, SX.leave, SX.lookC, SX.lookB, SX.lookT, SX.lookN, SX.findK, SX.evBuiltin, SX.ints, SX.foldI, SX.evBin, SX.evInt, SX.evStr, SX.evEq, SX.arith, SX.evLoad, SX.shapeUp, SX.evFieldAddr, SX.evField, SX.evIndexAddr, SX.evIndex, SX.evFill, SX.evBuild, SX.szs, SX.cellsV, SX.evNew, SX.evStore, SX.spliceL, SX.SV.cells, SX.evConv, SX.evSlice, SX.bnd, SX.evNil, SX.evUn, SX.evPick, SX.pickOpd, SX.popTo, SX.cnd, SX.env0, SX.TD.isAgg, SX.TD.isIface, SX.tails, SX.NotAgg, SX.evLookup, SX.evConvH, SX.evPtrEq, SX.isCells, SX.thaw, SX.frz, SX.fixB, SX.rootIx, SX.Froz, SX.frzStep, SX.fork, Go.Value.cells, Go.undef, cfg38]
    refine ⟨by (unfold SX.Ob; first | trivial | omega | ((try simp only [SX.inK]); (try simp [SX.den, SX.IsU8, SX.AllP, *]); (try omega))), ?_⟩
    intro a4 w4 hr4' _
    have hr4 := h3.unbase hr4'
    exact post_retn (end1 hr4 rfl rfl ⟨.slice (some ⟨b, 0, none⟩) 0 cap, by simp [den], .inr ⟨b, N, cap, u, row, hP, rfl, hc0, by simp, hc2, SO.rep_same hrep (hr4'.old (SO.rep_lt hrep) (by simp [mutB])), by simp⟩, hr4.keeps.toBelow⟩).1

def vnil : Value := .slice none 0 0

/-- How many things the first slices have. -/
def fl (Ls : List (List Ext)) (k : Nat) : Nat := (Ls.take k).flatten.length
theorem fl_zero {Ls : List (List Ext)} : fl Ls 0 = 0 := by simp [fl]

def SzLoop (w : World) (s m : Nat) (u : TypeId) (fz : Nat × Nat) (vs : List Value) (Ls : List (List Ext)) (q : Nat) (a : Act) (w' : World) : Prop :=
  ∃ k : Nat, q = m - k ∧ k ≤ m ∧ RepX (frame0 w) ⟨[(11, 0, .v (.int .i64 k)), (10, 0, .v (.int .i64 m)), (9, 0, .sl 0 s 0 0 m m 1), (0, 0, .sl 0 s 0 0 m m 1), (3, 0, .v (.int .i64 (fl Ls k)))], [(s, false, .arr 0 m (fun j => [.v (nth vnil vs j)]) 1 u fz)], 0, 0, 36, [], [], []⟩ a w'
def CcLoop (w : World) (s m : Nat) (u : TypeId) (fz : Nat × Nat) (vs : List Value) (Ls : List (List Ext)) (q : Nat) (a : Act) (w' : World) : Prop :=
  ∃ (k : Nat) (V : Value), q = m - k ∧ k ≤ m ∧ OwE (fun x => w.heap.size ≤ x) w' V (Ls.take k).flatten ∧ RepX (frame0 w) ⟨[(27, 0, .v (.int .i64 k)), (26, 0, .v (.int .i64 m)), (25, 0, .sl 0 s 0 0 m m 1), (6, 0, .v V)], [(s, false, .arr 0 m (fun j => [.v (nth vnil vs j)]) 1 u fz)], 0, 0, 36, [], [], []⟩ a w'

theorem flat_take {Ls : List (List Ext)} {k : Nat} (hk : k < Ls.length) : (Ls.take (k + 1)).flatten = (Ls.take k).flatten ++ nth [] Ls k := by
  rw [take_nth (d := []) hk, List.flatten_append]
  simp
theorem flat_le {Ls : List (List Ext)} (k : Nat) : (Ls.take k).flatten.length ≤ Ls.flatten.length := by
  conv => rhs; rw [← List.take_append_drop k Ls, List.flatten_append, List.length_append]
  omega
theorem fl_succ {Ls : List (List Ext)} {k : Nat} (hk : k < Ls.length) : fl Ls (k + 1) = fl Ls k + (nth [] Ls k).length := by
  unfold fl
  rw [flat_take hk, List.length_append]
theorem fl_le {Ls : List (List Ext)} (k : Nat) : fl Ls k ≤ Ls.flatten.length := flat_le k

set_option maxRecDepth 100000 in
set_option maxHeartbeats 8000000 in
/-- Concat. -/
theorem concat_ok {P : Nat → Prop} (w : World) (s m : Nat) (u : TypeId) (fz : Nat × Nat) (vs : List Value) (Ls : List (List Ext)) (hl : Ls.length = m) (hrep : (SO.arr 0 m (fun j => [.v (nth vnil vs j)]) 1 u fz).rep w s)
    (hv : ∀ j, j < m → RdE P w (nth vnil vs j) (nth [] Ls j)) (hn : Ls.flatten.length ≤ 1000000) (hm : m ≤ 1000000) : Calls Try.prog 36 (denL [.sl 0 s 0 0 m m 1]).toArray w (LstPost w Ls.flatten) := by
  have hsw := SO.rep_lt hrep
  refine enter (F := frame0 w) Try.func36 rfl [.sl 0 s 0 0 m m 1] [(s, false, .arr 0 m (fun j => [.v (nth vnil vs j)]) 1 u fz)] (by simp [Try.f36]) (HpAll.one hrep) (keeps0 w) fun a hr => ?_
  refine seg cfg36_ok mixed PanicFree.body 1000 [] [] hr (by first | trivial | exact HpRep.nil | assumption) (by kernel_rfl) fun s_ hs_ => ?_
  simp (maxSteps := 10000000) [SX.vc, SX.stop, SX.contS, SX.contB, SX.contW, SX.contR, SX.contD, SX.sxStep, SX.stepPure, SX.stepNew, SX.stepStore, SX.stepKeep, SX.guardIx, SX.evOp, SX.opd, SX.opds, SX.optOpd, SX.look, SX.putS, SX.gobs, SX.AllP, SX.leave, SX.lookC, SX.lookB, SX.lookT, SX.lookN, SX.findK, SX.evBuiltin, SX.ints, SX.foldI, SX.evBin, SX.evInt, SX.evStr, SX.evEq, SX.arith, SX.evLoad, SX.shapeUp, SX.evFieldAddr, SX.evField, SX.evIndexAddr, SX.evIndex, SX.evFill, SX.evBuild, SX.szs, SX.cellsV, SX.evNew, SX.evStore, SX.spliceL, SX.SV.cells, SX.evConv, SX.evSlice, SX.bnd, SX.evNil, SX.evUn, SX.evPick, SX.pickOpd, SX.popTo, SX.cnd, SX.env0, SX.TD.isAgg, SX.TD.isIface, SX.tails, SX.NotAgg, SX.evLookup, SX.evConvH, SX.evPtrEq, SX.isCells, SX.thaw, SX.frz, SX.fixB, SX.rootIx, SX.Froz, SX.frzStep, SX.fork, Go.Value.cells, Go.undef, cfg36, Try.f36]
  refine ⟨by (unfold SX.Ob; first | trivial | omega | ((try simp only [SX.inK]); (try simp [SX.den, SX.IsU8, SX.AllP, *]); (try omega))), ?_⟩
  intro a1 w1 hr1 _
  refine post_loop (SzLoop w s m u fz vs Ls) m ⟨0, rfl, by omega, hr1.re (by simp [envTo, SX.look, fl_zero]) hr1.all rfl rfl⟩ ?_
  rintro q a2 w2 ⟨k, rfl, hk, hr2⟩
  by_cases hlt : k < m
  · obtain ⟨vd, vc, hvk⟩ := (hv k hlt).slice
    have hlen := fl_succ (show k < Ls.length by omega)
    have hle := fl_le (Ls := Ls) (k + 1)
    refine seg cfg36_ok mixed PanicFree.body 1000 [true, false] [] hr2 (by first | trivial | exact HpRep.nil | assumption) (by kernel_rfl) fun s_ hs_ => ?_
    simp (maxSteps := 10000000) [SX.vc, SX.stop, SX.contS, SX.contB, SX.contW, SX.contR, SX.contD, SX.sxStep, SX.stepPure, SX.stepNew, SX.stepStore, SX.stepKeep, SX.guardIx, SX.evOp, SX.opd, SX.opds, SX.optOpd, SX.look, SX.putS, SX.gobs, SX.AllP, SX.leave, SX.lookC, SX.lookB, SX.lookT, SX.lookN, SX.findK, SX.evBuiltin, SX.ints, SX.foldI, SX.evBin, SX.evInt, SX.evStr, SX.evEq, SX.arith, SX.evLoad, SX.shapeUp, SX.evFieldAddr, SX.evField, SX.evIndexAddr, SX.evIndex, SX.evFill, SX.evBuild, SX.szs, SX.cellsV, SX.evNew, SX.evStore, SX.spliceL, SX.SV.cells, SX.evConv, SX.evSlice, SX.bnd, SX.evNil, SX.evUn, SX.evPick, SX.pickOpd, SX.popTo, SX.cnd, SX.env0, SX.TD.isAgg, SX.TD.isIface, SX.tails, SX.NotAgg, SX.evLookup, SX.evConvH, SX.evPtrEq, SX.isCells, SX.thaw, SX.frz, SX.fixB, SX.rootIx, SX.Froz, SX.frzStep, SX.fork, Go.Value.cells, Go.undef, cfg36, hvk]
    refine ⟨by (unfold SX.Ob; first | trivial | omega | ((try simp only [SX.inK]); (try simp [SX.den, SX.IsU8, SX.AllP, *]); (try omega))), ?_⟩
    intro a3 w3 hr3 _
    exact post_rnd (m - (k + 1)) (by omega) ⟨k + 1, rfl, hlt, hr3.re (by simp [envTo, SX.look, den, hlen]) hr3.all rfl rfl⟩
  · obtain rfl : k = m := by omega
    have htk : Ls.take k = Ls := by rw [← hl]; exact List.take_length
    have hfk : fl Ls k = Ls.flatten.length := by rw [fl, htk]
    refine seg cfg36_ok mixed PanicFree.body 1000 [false] [] hr2 (by first | trivial | exact HpRep.nil | assumption) (by kernel_rfl) fun s_ hs_ => ?_
    simp (maxSteps := 10000000) [SX.vc, SX.stop, SX.contS, SX.contB, SX.contW, SX.contR, SX.contD, SX.sxStep, SX.stepPure, SX.stepNew, SX.stepStore, SX.stepKeep, SX.guardIx, SX.evOp, SX.opd, SX.opds, SX.optOpd, SX.look, SX.putS, SX.gobs, SX.AllP, SX.leave, SX.lookC, SX.lookB, SX.lookT, SX.lookN, SX.findK, SX.evBuiltin, SX.ints, SX.foldI, SX.evBin, SX.evInt, SX.evStr, SX.evEq, SX.arith, SX.evLoad, SX.shapeUp, SX.evFieldAddr, SX.evField, SX.evIndexAddr, SX.evIndex, SX.evFill, SX.evBuild, SX.szs, SX.cellsV, SX.evNew, SX.evStore, SX.spliceL, SX.SV.cells, SX.evConv, SX.evSlice, SX.bnd, SX.evNil, SX.evUn, SX.evPick, SX.pickOpd, SX.popTo, SX.cnd, SX.env0, SX.TD.isAgg, SX.TD.isIface, SX.tails, SX.NotAgg, SX.evLookup, SX.evConvH, SX.evPtrEq, SX.isCells, SX.thaw, SX.frz, SX.fixB, SX.rootIx, SX.Froz, SX.frzStep, SX.fork, Go.Value.cells, Go.undef, cfg36]
    refine ⟨by (unfold SX.Ob; first | trivial | omega | ((try simp only [SX.inK]); (try simp [SX.den, SX.IsU8, SX.AllP, *]); (try omega))), ?_⟩
    intro a3 w3 hr3 _
    refine post_call 38 [.v (.slice none 0 0), .v (.int .i64 (fl Ls k))] hr3 (by first | exact wanted_none rfl | exact wanted_zero (hr3.env.same rfl rfl rfl rfl) rfl (by simp)) rfl (callable 38 Try.func38) (grow_ok w3 (fl Ls k) (by omega)) ?_
    rintro e4 w4 ⟨V, rfl, hO4, hb4⟩
    refine ⟨_, rfl, ?_⟩
    have h4 := hr3.ret hb4 24 (.v V) rfl _ (hr3.all.below hb4) (by simp) rfl
    have z3 : w.heap.size ≤ w3.heap.size := hr3.keeps.size
    refine seg cfg36_ok mixed PanicFree.body 1000 [] [] h4.rebase (by first | trivial | exact HpRep.nil | assumption) (by kernel_rfl) fun s_ hs_ => ?_
    simp (maxSteps := 10000000) [SX.vc, SX.stop, SX.contS, SX.contB, SX.contW, SX.contR, SX.contD, SX.sxStep, SX.stepPure, SX.stepNew, SX.stepStore, SX.stepKeep, SX.guardIx, SX.evOp, SX.opd, SX.opds, SX.optOpd, SX.look, SX.putS, SX.gobs, SX.AllP, SX.leave, SX.lookC, SX.lookB, SX.lookT, SX.lookN, SX.findK, SX.evBuiltin, SX.ints, SX.foldI, SX.evBin, SX.evInt, SX.evStr, SX.evEq, SX.arith, SX.evLoad, SX.shapeUp, SX.evFieldAddr, SX.evField, SX.evIndexAddr, SX.evIndex, SX.evFill, SX.evBuild, SX.szs, SX.cellsV, SX.evNew, SX.evStore, SX.spliceL, SX.SV.cells, SX.evConv, SX.evSlice, SX.bnd, SX.evNil, SX.evUn, SX.evPick, SX.pickOpd, SX.popTo, SX.cnd, SX.env0, SX.TD.isAgg, SX.TD.isIface, SX.tails, SX.NotAgg, SX.evLookup, SX.evConvH, SX.evPtrEq, SX.isCells, SX.thaw, SX.frz, SX.fixB, SX.rootIx, SX.Froz, SX.frzStep, SX.fork, Go.Value.cells, Go.undef, cfg36]
    refine ⟨by (unfold SX.Ob; first | trivial | omega | ((try simp only [SX.inK]); (try simp [SX.den, SX.IsU8, SX.AllP, *]); (try omega))), ?_⟩
    intro a5 w5 hr5' _
    have hr5 := h4.unbase hr5'
    have hO5 := (hO4.keep hr5'.keeps (by simp [frameAt, mutB])).mono (P' := fun x => w.heap.size ≤ x) (fun x _ hx => Nat.le_trans z3 hx)
    refine post_loop (CcLoop w s k u fz vs Ls) k ⟨0, V, rfl, by omega, by simpa using hO5, hr5.re (by simp [envTo, SX.look]) hr5.all rfl rfl⟩ ?_
    rintro q a6 w6 ⟨i, V', rfl, hi, hO, hr6⟩
    by_cases hlt : i < k
    · obtain ⟨vd, vc, hvk⟩ := (hv i hlt).slice
      have hlen := flat_take (show i < Ls.length by omega)
      have hle := flat_le (Ls := Ls) (i + 1)
      rw [hlen, List.length_append] at hle
      refine seg cfg36_ok mixed PanicFree.body 1000 [true] [] hr6.rebase (by first | trivial | exact HpRep.nil | assumption) (by kernel_rfl) fun s_ hs_ => ?_
      simp (maxSteps := 10000000) [SX.vc, SX.stop, SX.contS, SX.contB, SX.contW, SX.contR, SX.contD, SX.sxStep, SX.stepPure, SX.stepNew, SX.stepStore, SX.stepKeep, SX.guardIx, SX.evOp, SX.opd, SX.opds, SX.optOpd, SX.look, SX.putS, SX.gobs, SX.AllP, SX.leave, SX.lookC, SX.lookB, SX.lookT, SX.lookN, SX.findK, SX.evBuiltin, SX.ints, SX.foldI, SX.evBin, SX.evInt, SX.evStr, SX.evEq, SX.arith, SX.evLoad, SX.shapeUp, SX.evFieldAddr, SX.evField, SX.evIndexAddr, SX.evIndex, SX.evFill, SX.evBuild, SX.szs, SX.cellsV, SX.evNew, SX.evStore, SX.spliceL, SX.SV.cells, SX.evConv, SX.evSlice, SX.bnd, SX.evNil, SX.evUn, SX.evPick, SX.pickOpd, SX.popTo, SX.cnd, SX.env0, SX.TD.isAgg, SX.TD.isIface, SX.tails, SX.NotAgg, SX.evLookup, SX.evConvH, SX.evPtrEq, SX.isCells, SX.thaw, SX.frz, SX.fixB, SX.rootIx, SX.Froz, SX.frzStep, SX.fork, Go.Value.cells, Go.undef, cfg36, hvk]
      refine ⟨by (unfold SX.Ob; first | trivial | omega | ((try simp only [SX.inK]); (try simp [SX.den, SX.IsU8, SX.AllP, *]); (try omega))), ?_⟩
      intro a7 w7 hr7' _
      have hr7 := hr6.unbase hr7'
      have z7 : w.heap.size ≤ w7.heap.size := hr7.keeps.size
      have hS := (hv i hlt).below hr7.keeps.toBelow
      rw [hvk] at hS
      have hH7 : ∀ w' B, KeepsTo w7 B w' → (∀ x ∈ B, w.heap.size ≤ x ∧ x < w7.heap.size) → HpAll (frame0 w) w' [(s, false, .arr 0 k (fun j => [.v (nth vnil vs j)]) 1 u fz)] := fun w' B hk hB => HpAll.to hk hr7.all (by
        intro e he hB'
        have e1 : e.1 = s := by
          simp only [List.mem_cons, List.not_mem_nil, or_false] at he
          rw [he]
        have := (hB _ hB').1
        omega)
      refine post_app (C := cfg36) cfg36_ok hr7 (by first | exact wanted_none rfl | exact wanted_zero (hr7.env.same rfl rfl rfl rfl) rfl (by simp)) rfl (by simp) rfl rfl rfl rfl rfl rfl rfl rfl rfl (by decide) (flatE _) (by (try simp only [List.length_append, List.length_cons, List.length_nil, List.length_map, List.length_take]); omega) (fun x hx => Nat.le_trans z7 hx) (hO.keep hr7'.keeps (by simp [frameAt, mutB])) hS [(s, false, .arr 0 k (fun j => [.v (nth vnil vs j)]) 1 u fz)] (hH7) (fun x hx => .inl hx) fun V8 a8 w8 B8 hO8 hB8 hk8 hr8 => ?_
      rw [← hlen] at hO8
      refine seg cfg36_ok mixed PanicFree.body 1000 [] [] hr8.rebase (by first | trivial | exact HpRep.nil | assumption) (by kernel_rfl) fun s_ hs_ => ?_
      simp (maxSteps := 10000000) [SX.vc, SX.stop, SX.contS, SX.contB, SX.contW, SX.contR, SX.contD, SX.sxStep, SX.stepPure, SX.stepNew, SX.stepStore, SX.stepKeep, SX.guardIx, SX.evOp, SX.opd, SX.opds, SX.optOpd, SX.look, SX.putS, SX.gobs, SX.AllP, SX.leave, SX.lookC, SX.lookB, SX.lookT, SX.lookN, SX.findK, SX.evBuiltin, SX.ints, SX.foldI, SX.evBin, SX.evInt, SX.evStr, SX.evEq, SX.arith, SX.evLoad, SX.shapeUp, SX.evFieldAddr, SX.evField, SX.evIndexAddr, SX.evIndex, SX.evFill, SX.evBuild, SX.szs, SX.cellsV, SX.evNew, SX.evStore, SX.spliceL, SX.SV.cells, SX.evConv, SX.evSlice, SX.bnd, SX.evNil, SX.evUn, SX.evPick, SX.pickOpd, SX.popTo, SX.cnd, SX.env0, SX.TD.isAgg, SX.TD.isIface, SX.tails, SX.NotAgg, SX.evLookup, SX.evConvH, SX.evPtrEq, SX.isCells, SX.thaw, SX.frz, SX.fixB, SX.rootIx, SX.Froz, SX.frzStep, SX.fork, Go.Value.cells, Go.undef, cfg36]
      refine ⟨by (unfold SX.Ob; first | trivial | omega | ((try simp only [SX.inK]); (try simp [SX.den, SX.IsU8, SX.AllP, *]); (try omega))), ?_⟩
      intro a9 w9 hr9' _
      have hr9 := hr8.unbase hr9'
      exact post_rnd (k - (i + 1)) (by omega) ⟨i + 1, V8, rfl, hlt, hO8.keep hr9'.keeps (by simp [frameAt, mutB]), hr9.re (by simp [envTo, SX.look, den]) hr9.all rfl rfl⟩
    · obtain rfl : i = k := by omega
      refine seg cfg36_ok mixed PanicFree.body 1000 [false] [] hr6.rebase (by first | trivial | exact HpRep.nil | assumption) (by kernel_rfl) fun s_ hs_ => ?_
      simp (maxSteps := 10000000) [SX.vc, SX.stop, SX.contS, SX.contB, SX.contW, SX.contR, SX.contD, SX.sxStep, SX.stepPure, SX.stepNew, SX.stepStore, SX.stepKeep, SX.guardIx, SX.evOp, SX.opd, SX.opds, SX.optOpd, SX.look, SX.putS, SX.gobs, SX.AllP, SX.leave, SX.lookC, SX.lookB, SX.lookT, SX.lookN, SX.findK, SX.evBuiltin, SX.ints, SX.foldI, SX.evBin, SX.evInt, SX.evStr, SX.evEq, SX.arith, SX.evLoad, SX.shapeUp, SX.evFieldAddr, SX.evField, SX.evIndexAddr, SX.evIndex, SX.evFill, SX.evBuild, SX.szs, SX.cellsV, SX.evNew, SX.evStore, SX.spliceL, SX.SV.cells, SX.evConv, SX.evSlice, SX.bnd, SX.evNil, SX.evUn, SX.evPick, SX.pickOpd, SX.popTo, SX.cnd, SX.env0, SX.TD.isAgg, SX.TD.isIface, SX.tails, SX.NotAgg, SX.evLookup, SX.evConvH, SX.evPtrEq, SX.isCells, SX.thaw, SX.frz, SX.fixB, SX.rootIx, SX.Froz, SX.frzStep, SX.fork, Go.Value.cells, Go.undef, cfg36]
      refine ⟨by (unfold SX.Ob; first | trivial | omega | ((try simp only [SX.inK]); (try simp [SX.den, SX.IsU8, SX.AllP, *]); (try omega))), ?_⟩
      intro a7 w7 hr7' _
      have hr7 := hr6.unbase hr7'
      rw [htk] at hO
      exact post_retn (end1 hr7 rfl rfl ⟨V', rfl, hO.keep hr7'.keeps (by simp [frameAt, mutB]), hr7.keeps.toBelow⟩).1
end Go.Proofs
