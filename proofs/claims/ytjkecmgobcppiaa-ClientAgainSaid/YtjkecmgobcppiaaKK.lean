/- The client: over. -/
import Derived.Test.YtjkecmgobcppiaaKJ
namespace Go.Proofs
set_option linter.unusedVariables false
set_option linter.unusedSimpArgs false
open Go Go.SX Go.RowKit

theorem HpAll.take {F : Fr} {w : World} : ∀ {H : Hp} (n : Nat), HpAll F w H → HpAll F w (H.take n)
  | [], n, _ => by rw [List.take_nil]; trivial
  | (b, m, o) :: r, 0, _ => trivial
  | (b, m, o) :: r, n + 1, h => ⟨⟨h.1.1, h.1.2.1, fun e he => h.1.2.2 e (List.mem_of_mem_take he)⟩, HpAll.take n h.2⟩

theorem Fins.lt {P : Nat → Prop} {w : World} {b o n cap : Nat} {f : Nat → Fin11} (h : Fins P w (.slice (some ⟨b, o, none⟩) n cap) n f) : b < w.heap.size ∧ P b := by
  rcases h with ⟨_, e⟩ | ⟨_, b', N, cap, u, row, hP, e, _, _, h, _⟩
  · cases e
  · cases e
    exact ⟨SO.rep_lt h, hP⟩

theorem Fins.slice {P : Nat → Prop} {w : World} {v : Value} {n : Nat} {f : Nat → Fin11} (h : Fins P w v n f) : ∃ a cp, v = .slice a n cp := by
  rcases h with ⟨rfl, e⟩ | ⟨_, b, N, cap, u, row, _, e, _⟩
  · exact ⟨_, _, e⟩
  · exact ⟨_, _, e⟩

def resC (e : Int) (dt : Value) : List SV := [.v (.int .i64 e), .v dt]
def overCl (c : Cl) (V : Value) : Cl := ⟨c.name, c.next, false, 0, ⟨0, 0, 0, 0, 0, 0, 0⟩, 0, 0, V⟩
def OverPost (w : World) (c : Cl) (n : Nat) (f : Nat → Fin11) (re : Int) (dt : Value) (e : Ending) (w' : World) : Prop :=
  ∃ V, e = .returned (den (.ag (clC (overCl c V)))) ∧ Fins (fun x => w.heap.size ≤ x) w' V (n + 1) (snoc n f ⟨c.id, c.act, re, dt, c.tries⟩) ∧ Below w.heap.size w w'

set_option maxRecDepth 100000 in
set_option maxHeartbeats 8000000 in
theorem over_ok (w : World) (c : Cl) (P : Nat → Prop) (n : Nat) (f : Nat → Fin11) (re : Int) (ra : Option Addr) (rn rc : Nat) (hF : Fins P w c.done n f) (hn : n ≤ 1000000) :
    Calls Try.prog 24 (denL [.ag (clC c), .ag (resC re (.slice ra rn rc))]).toArray w (OverPost w c n f re (.slice ra rn rc)) := by
  obtain ⟨da, dc, hdn⟩ := hF.slice
  rw [hdn] at hF
  refine enter (F := frame0 w) Try.func24 rfl [.ag (clC c), .ag (resC re (.slice ra rn rc))] [] (by simp [Try.f24]) trivial (keeps0 w) fun a hr => ?_
  refine seg cfg24_ok mixed PanicFree.body 3 [] [] hr (by first | trivial | exact HpRep.nil | assumption) (by kernel_rfl) fun s_ hs_ => ?_
  simp (maxSteps := 10000000) [SX.vc, SX.stop, SX.contS, SX.contB, SX.contW, SX.contR, SX.contD, SX.sxStep, SX.stepPure, SX.stepNew, SX.stepStore, SX.stepKeep, SX.guardIx, SX.evOp, SX.opd, SX.opds, SX.optOpd, SX.look, SX.putS, SX.gobs, SX.AllP, SX.leave, SX.lookC, SX.lookB, SX.lookT, SX.lookN, SX.findK, SX.evBuiltin, SX.ints, SX.foldI, SX.evBin, SX.evInt, SX.evStr, SX.evEq, SX.arith, SX.evLoad, SX.shapeUp, SX.evFieldAddr, SX.evField, SX.evIndexAddr, SX.evIndex, SX.evFill, SX.evBuild, SX.szs, SX.cellsV, SX.evNew, SX.evStore, SX.spliceL, SX.SV.cells, SX.evConv, SX.evSlice, SX.bnd, SX.evNil, SX.evUn, SX.evPick, SX.pickOpd, SX.popTo, SX.cnd, SX.env0, SX.TD.isAgg, SX.TD.isIface, SX.tails, SX.NotAgg, SX.evLookup, SX.evConvH, SX.evPtrEq, SX.isCells, SX.thaw, SX.frz, SX.fixB, SX.rootIx, SX.Froz, SX.frzStep, SX.fork, Go.Value.cells, Go.undef, cfg24, Try.f24, clC, resC, hdn]
  refine ⟨by (unfold SX.Ob; first | trivial | omega | ((try simp only [SX.inK]); (try simp [SX.den, SX.IsU8, *]); (try omega))), ?_⟩
  intro a1 w1 hr1 _
  refine seg cfg24_ok mixed PanicFree.body 8 [] [] hr1 (by first | trivial | exact HpRep.nil | assumption) (by kernel_rfl) fun s_ hs_ => ?_
  simp (maxSteps := 10000000) [SX.vc, SX.stop, SX.contS, SX.contB, SX.contW, SX.contR, SX.contD, SX.sxStep, SX.stepPure, SX.stepNew, SX.stepStore, SX.stepKeep, SX.guardIx, SX.evOp, SX.opd, SX.opds, SX.optOpd, SX.look, SX.putS, SX.gobs, SX.AllP, SX.leave, SX.lookC, SX.lookB, SX.lookT, SX.lookN, SX.findK, SX.evBuiltin, SX.ints, SX.foldI, SX.evBin, SX.evInt, SX.evStr, SX.evEq, SX.arith, SX.evLoad, SX.shapeUp, SX.evFieldAddr, SX.evField, SX.evIndexAddr, SX.evIndex, SX.evFill, SX.evBuild, SX.szs, SX.cellsV, SX.evNew, SX.evStore, SX.spliceL, SX.SV.cells, SX.evConv, SX.evSlice, SX.bnd, SX.evNil, SX.evUn, SX.evPick, SX.pickOpd, SX.popTo, SX.cnd, SX.env0, SX.TD.isAgg, SX.TD.isIface, SX.tails, SX.NotAgg, SX.evLookup, SX.evConvH, SX.evPtrEq, SX.isCells, SX.thaw, SX.frz, SX.fixB, SX.rootIx, SX.Froz, SX.frzStep, SX.fork, Go.Value.cells, Go.undef, cfg24]
  refine ⟨by (unfold SX.Ob; first | trivial | omega | ((try simp only [SX.inK]); (try simp [SX.den, SX.IsU8, *]); (try omega))), ?_⟩
  intro a2 w2 hr2 ht2
  refine seg cfg24_ok mixed PanicFree.body 7 [] [] hr2 (by first | trivial | exact HpRep.nil | assumption) (by kernel_rfl) fun s_ hs_ => ?_
  simp (maxSteps := 10000000) [SX.vc, SX.stop, SX.contS, SX.contB, SX.contW, SX.contR, SX.contD, SX.sxStep, SX.stepPure, SX.stepNew, SX.stepStore, SX.stepKeep, SX.guardIx, SX.evOp, SX.opd, SX.opds, SX.optOpd, SX.look, SX.putS, SX.gobs, SX.AllP, SX.leave, SX.lookC, SX.lookB, SX.lookT, SX.lookN, SX.findK, SX.evBuiltin, SX.ints, SX.foldI, SX.evBin, SX.evInt, SX.evStr, SX.evEq, SX.arith, SX.evLoad, SX.shapeUp, SX.evFieldAddr, SX.evField, SX.evIndexAddr, SX.evIndex, SX.evFill, SX.evBuild, SX.szs, SX.cellsV, SX.evNew, SX.evStore, SX.spliceL, SX.SV.cells, SX.evConv, SX.evSlice, SX.bnd, SX.evNil, SX.evUn, SX.evPick, SX.pickOpd, SX.popTo, SX.cnd, SX.env0, SX.TD.isAgg, SX.TD.isIface, SX.tails, SX.NotAgg, SX.evLookup, SX.evConvH, SX.evPtrEq, SX.isCells, SX.thaw, SX.frz, SX.fixB, SX.rootIx, SX.Froz, SX.frzStep, SX.fork, Go.Value.cells, Go.undef, cfg24]
  refine ⟨by (unfold SX.Ob; first | trivial | omega | ((try simp only [SX.inK]); (try simp [SX.den, SX.IsU8, *]); (try omega))), ?_⟩
  intro a3 w3 hr3 ht3
  have hA3 := hr3.all
  have l1 := SO.rep_lt hA3.1.1
  have l2 := SO.rep_lt hA3.2.1.1
  have l3 := SO.rep_lt hA3.2.2.1.1
  have hz3 : w.heap.size ≤ w3.heap.size := hr3.keeps.size
  refine post_both ?_ ?_
  · refine post_callD 21 [.v (.slice da n dc)] hr3 rfl (wanted_none rfl) rfl (callable 21 Try.func21) (clone_ok w3 _ n f P (hF.below hr3.keeps.toBelow) hn) ?_
    rintro e w5 ⟨dv, rfl, hF5, hb5⟩
    obtain ⟨ea, ec, rfl⟩ := hF5.slice
    have ht5 := HpRep_below ht3 hb5
    refine ⟨_, rfl, ht5, ?_⟩
    have h5 := hr3.ret hb5 8 (.v (.slice ea n ec)) rfl _ (hr3.all.below hb5) (by simp) rfl
    have hz5 : w3.heap.size ≤ w5.heap.size := hb5.size
    refine seg cfg24_ok mixed PanicFree.body 1 [] [] h5.rebase (by first | trivial | exact HpRep.nil | assumption) (by kernel_rfl) fun s_ hs_ => ?_
    simp (maxSteps := 10000000) [SX.vc, SX.stop, SX.contS, SX.contB, SX.contW, SX.contR, SX.contD, SX.sxStep, SX.stepPure, SX.stepNew, SX.stepStore, SX.stepKeep, SX.guardIx, SX.evOp, SX.opd, SX.opds, SX.optOpd, SX.look, SX.putS, SX.gobs, SX.AllP, SX.leave, SX.lookC, SX.lookB, SX.lookT, SX.lookN, SX.findK, SX.evBuiltin, SX.ints, SX.foldI, SX.evBin, SX.evInt, SX.evStr, SX.evEq, SX.arith, SX.evLoad, SX.shapeUp, SX.evFieldAddr, SX.evField, SX.evIndexAddr, SX.evIndex, SX.evFill, SX.evBuild, SX.szs, SX.cellsV, SX.evNew, SX.evStore, SX.spliceL, SX.SV.cells, SX.evConv, SX.evSlice, SX.bnd, SX.evNil, SX.evUn, SX.evPick, SX.pickOpd, SX.popTo, SX.cnd, SX.env0, SX.TD.isAgg, SX.TD.isIface, SX.tails, SX.NotAgg, SX.evLookup, SX.evConvH, SX.evPtrEq, SX.isCells, SX.thaw, SX.frz, SX.fixB, SX.rootIx, SX.Froz, SX.frzStep, SX.fork, Go.Value.cells, Go.undef, cfg24]
    refine ⟨by (unfold SX.Ob; first | trivial | omega | ((try simp only [SX.inK]); (try simp [SX.den, SX.IsU8, *]); (try omega))), ?_⟩
    intro a6 w6 hr6' ht6
    have hr6 := h5.unbase hr6'
    have hz6 : w5.heap.size ≤ w6.heap.size := hr6'.keeps.size
    have hF6 := hF5.keep hr6'.keeps (by
      intro x hx
      simp [frameAt, mutB] at hx
      rcases hx with rfl | rfl | rfl <;> omega)
    have hS : (SO.arr 0 1 (fun _ => finC ⟨c.id, c.act, re, .slice ra rn rc, c.tries⟩) 11 45 (0, 0)).rep w6 s_ := by
      refine rep_arr_sub (row := fun j => [finC ⟨c.id, c.act, re, .slice ra rn rc, c.tries⟩][j]?.getD []) ?_ (Nat.le_refl _) fun j hj => ?_
      · exact hr6.all.2.2.2.1.1
      · obtain rfl : j = 0 := by omega
        rfl
    have hV6 : ∀ b cap, (Value.slice ea n ec) = .slice (some ⟨b, 0, none⟩) n cap → b ≠ s_ := by
      intro b cap e
      cases e
      have := hF6.lt.1
      have := hF5.lt.1
      omega
    obtain ⟨V', w7, r7, ⟨M7, k7, m7⟩, hF7⟩ := app_fin (P := fun x => w3.heap.size ≤ x) (ty := 27) (x := ⟨c.id, c.act, re, .slice ra rn rc, c.tries⟩) (fun x hx => by have : w3.heap.size ≤ w6.heap.size := Nat.le_trans hz5 hz6; omega) hF6 trivial hS hV6 hn
    have hap := evApp_sound (P := Try.prog) (hr6.env.same rfl rfl rfl rfl) (o := ⟨some 18, .call { callee := .builtin .append, args := #[.tmp 8, .tmp 17], argTypes := #[27, 27] }, 27, "client.go:57", #[{ on := 2, ground := .data }, { on := 11, ground := .data }, { on := 2, ground := .chain }], none⟩) (x := .v (.slice ea n ec)) (y := .sl 3 s_ 0 0 1 1 11) (t := 27) (t' := 27) rfl w6
    have r7' : (Builtin.append_ #[27, 27] 27 #[den (.v (.slice ea n ec)), den (.sl 3 s_ 0 0 1 1 11)]).run Try.prog w6 = .ok V' w7 := r7
    rw [r7'] at hap
    refine post_stepD3 rfl (wanted_none rfl) hap HpRep.nil ?_
    obtain ⟨Va, Vc, rfl⟩ := hF7.slice
    have h7 := hr6.retK k7 (fun x hx => .inl (by have := m7 x hx; show w.heap.size ≤ x; omega)) 18 (.v (.slice Va (n + 1) Vc)) rfl _ (HpAll.to k7 (show HpAll _ _ [_, _, _] from HpAll.take 3 hr6.all) (by
      intro e he hm
      have := m7 _ hm
      simp only [List.take, List.mem_cons, List.not_mem_nil, or_false] at he
      rcases he with rfl | rfl | rfl <;> simp only at this <;> omega)) (by simp) rfl
    have ht7 : HpRep _ w7 := h7.hp
    refine seg cfg24_ok mixed PanicFree.body 8 [] [] h7.rebase (by first | trivial | exact HpRep.nil | assumption) (by kernel_rfl) fun s_ hs_ => ?_
    simp (maxSteps := 10000000) [SX.vc, SX.stop, SX.contS, SX.contB, SX.contW, SX.contR, SX.contD, SX.sxStep, SX.stepPure, SX.stepNew, SX.stepStore, SX.stepKeep, SX.guardIx, SX.evOp, SX.opd, SX.opds, SX.optOpd, SX.look, SX.putS, SX.gobs, SX.AllP, SX.leave, SX.lookC, SX.lookB, SX.lookT, SX.lookN, SX.findK, SX.evBuiltin, SX.ints, SX.foldI, SX.evBin, SX.evInt, SX.evStr, SX.evEq, SX.arith, SX.evLoad, SX.shapeUp, SX.evFieldAddr, SX.evField, SX.evIndexAddr, SX.evIndex, SX.evFill, SX.evBuild, SX.szs, SX.cellsV, SX.evNew, SX.evStore, SX.spliceL, SX.SV.cells, SX.evConv, SX.evSlice, SX.bnd, SX.evNil, SX.evUn, SX.evPick, SX.pickOpd, SX.popTo, SX.cnd, SX.env0, SX.TD.isAgg, SX.TD.isIface, SX.tails, SX.NotAgg, SX.evLookup, SX.evConvH, SX.evPtrEq, SX.isCells, SX.thaw, SX.frz, SX.fixB, SX.rootIx, SX.Froz, SX.frzStep, SX.fork, Go.Value.cells, Go.undef, cfg24]
    refine ⟨by (unfold SX.Ob; first | trivial | omega | ((try simp only [SX.inK]); (try simp [SX.den, SX.IsU8, *]); (try omega))), ?_⟩
    intro a8 w8 hr8' _
    have hr8 := h7.unbase hr8'
    have hF8 := hF7.keep hr8'.keeps (by
      intro x hx
      simp [frameAt, mutB] at hx
      rcases hx with rfl | rfl | rfl <;> omega)
    refine seg cfg24_ok mixed PanicFree.body 1000 [] [] hr8.rebase (by first | trivial | exact HpRep.nil | assumption) (by kernel_rfl) fun s_ hs_ => ?_
    simp (maxSteps := 10000000) [SX.vc, SX.stop, SX.contS, SX.contB, SX.contW, SX.contR, SX.contD, SX.sxStep, SX.stepPure, SX.stepNew, SX.stepStore, SX.stepKeep, SX.guardIx, SX.evOp, SX.opd, SX.opds, SX.optOpd, SX.look, SX.putS, SX.gobs, SX.AllP, SX.leave, SX.lookC, SX.lookB, SX.lookT, SX.lookN, SX.findK, SX.evBuiltin, SX.ints, SX.foldI, SX.evBin, SX.evInt, SX.evStr, SX.evEq, SX.arith, SX.evLoad, SX.shapeUp, SX.evFieldAddr, SX.evField, SX.evIndexAddr, SX.evIndex, SX.evFill, SX.evBuild, SX.szs, SX.cellsV, SX.evNew, SX.evStore, SX.spliceL, SX.SV.cells, SX.evConv, SX.evSlice, SX.bnd, SX.evNil, SX.evUn, SX.evPick, SX.pickOpd, SX.popTo, SX.cnd, SX.env0, SX.TD.isAgg, SX.TD.isIface, SX.tails, SX.NotAgg, SX.evLookup, SX.evConvH, SX.evPtrEq, SX.isCells, SX.thaw, SX.frz, SX.fixB, SX.rootIx, SX.Froz, SX.frzStep, SX.fork, Go.Value.cells, Go.undef, cfg24]
    refine ⟨by (unfold SX.Ob; first | trivial | omega | ((try simp only [SX.inK]); (try simp [SX.den, SX.IsU8, *]); (try omega))), ?_⟩
    intro a9 w9 hr9' _
    have hr9 := hr8.unbase hr9'
    have hF9 := hF8.keep hr9'.keeps (by
      intro x hx
      simp [frameAt, mutB] at hx
      rcases hx with rfl | rfl | rfl <;> omega)
    exact post_retn (endC1 hr9 rfl rfl rfl tok29 rfl ⟨_, rfl, hF9.mono fun x _ hx => by omega, hr9.keeps.toBelow⟩).1
  · refine seg cfg24_ok mixed PanicFree.body 1 [] [] hr3.rebase (by first | trivial | exact HpRep.nil | assumption) (by kernel_rfl) fun s_ hs_ => ?_
    simp (maxSteps := 10000000) [SX.vc, SX.stop, SX.contS, SX.contB, SX.contW, SX.contR, SX.contD, SX.sxStep, SX.stepPure, SX.stepNew, SX.stepStore, SX.stepKeep, SX.guardIx, SX.evOp, SX.opd, SX.opds, SX.optOpd, SX.look, SX.putS, SX.gobs, SX.AllP, SX.leave, SX.lookC, SX.lookB, SX.lookT, SX.lookN, SX.findK, SX.evBuiltin, SX.ints, SX.foldI, SX.evBin, SX.evInt, SX.evStr, SX.evEq, SX.arith, SX.evLoad, SX.shapeUp, SX.evFieldAddr, SX.evField, SX.evIndexAddr, SX.evIndex, SX.evFill, SX.evBuild, SX.szs, SX.cellsV, SX.evNew, SX.evStore, SX.spliceL, SX.SV.cells, SX.evConv, SX.evSlice, SX.bnd, SX.evNil, SX.evUn, SX.evPick, SX.pickOpd, SX.popTo, SX.cnd, SX.env0, SX.TD.isAgg, SX.TD.isIface, SX.tails, SX.NotAgg, SX.evLookup, SX.evConvH, SX.evPtrEq, SX.isCells, SX.thaw, SX.frz, SX.fixB, SX.rootIx, SX.Froz, SX.frzStep, SX.fork, Go.Value.cells, Go.undef, cfg24]
    refine ⟨by (unfold SX.Ob; first | trivial | omega | ((try simp only [SX.inK]); (try simp [SX.den, SX.IsU8, *]); (try omega))), ?_⟩
    intro a5 w5 hr5' ht5
    have hr5 := hr3.unbase hr5'
    have hA5 := hr5.all
    have l5 := SO.rep_lt hA5.2.2.2.1.1
    have hz5 : w3.heap.size ≤ w5.heap.size := hr5'.keeps.size
    refine post_callD 21 [.v (.slice da n dc)] hr5 rfl (wanted_none rfl) rfl (callable 21 Try.func21) (clone_ok w5 _ n f P (hF.below hr5.keeps.toBelow) hn) ?_
    rintro e w6 ⟨dv, rfl, hF6, hb6⟩
    obtain ⟨ea, ec, rfl⟩ := hF6.slice
    have ht6 := HpRep_below ht5 hb6
    refine ⟨_, rfl, ht6, ?_⟩
    have hr6 := hr5.ret hb6 8 (.v (.slice ea n ec)) rfl _ (hr5.all.below hb6) (by simp) rfl
    have hz6 : w5.heap.size ≤ w6.heap.size := hb6.size
    have hS : (SO.arr 0 1 (fun _ => finC ⟨c.id, c.act, re, .slice ra rn rc, c.tries⟩) 11 45 (0, 0)).rep w6 s_ := by
      refine rep_arr_sub (row := fun j => [finC ⟨c.id, c.act, re, .slice ra rn rc, c.tries⟩][j]?.getD []) ?_ (Nat.le_refl _) fun j hj => ?_
      · exact hr6.all.2.2.2.1.1
      · obtain rfl : j = 0 := by omega
        rfl
    have hV6 : ∀ b cap, (Value.slice ea n ec) = .slice (some ⟨b, 0, none⟩) n cap → b ≠ s_ := by
      intro b cap e
      cases e
      have := hF6.lt.2
      omega
    obtain ⟨V', w7, r7, ⟨M7, k7, m7⟩, hF7⟩ := app_fin (P := fun x => w3.heap.size ≤ x) (ty := 27) (x := ⟨c.id, c.act, re, .slice ra rn rc, c.tries⟩) (fun x hx => by have : w3.heap.size ≤ w6.heap.size := Nat.le_trans hz5 hz6; omega) (hF6.mono fun x _ hx => Nat.le_trans hz5 hx) trivial hS hV6 hn
    have hap := evApp_sound (P := Try.prog) (hr6.env.same rfl rfl rfl rfl) (o := ⟨some 18, .call { callee := .builtin .append, args := #[.tmp 8, .tmp 17], argTypes := #[27, 27] }, 27, "client.go:57", #[{ on := 2, ground := .data }, { on := 11, ground := .data }, { on := 2, ground := .chain }], none⟩) (x := .v (.slice ea n ec)) (y := .sl 3 s_ 0 0 1 1 11) (t := 27) (t' := 27) rfl w6
    have r7' : (Builtin.append_ #[27, 27] 27 #[den (.v (.slice ea n ec)), den (.sl 3 s_ 0 0 1 1 11)]).run Try.prog w6 = .ok V' w7 := r7
    rw [r7'] at hap
    refine post_stepD3 rfl (wanted_none rfl) hap HpRep.nil ?_
    obtain ⟨Va, Vc, rfl⟩ := hF7.slice
    have h7 := hr6.retK k7 (fun x hx => .inl (by have := m7 x hx; show w.heap.size ≤ x; omega)) 18 (.v (.slice Va (n + 1) Vc)) rfl _ (HpAll.to k7 (show HpAll _ _ [_, _, _] from HpAll.take 3 hr6.all) (by
      intro e he hm
      have := m7 _ hm
      simp only [List.take, List.mem_cons, List.not_mem_nil, or_false] at he
      rcases he with rfl | rfl | rfl <;> simp only at this <;> omega)) (by simp) rfl
    have ht7 : HpRep _ w7 := h7.hp
    refine seg cfg24_ok mixed PanicFree.body 8 [] [] h7.rebase (by first | trivial | exact HpRep.nil | assumption) (by kernel_rfl) fun s_ hs_ => ?_
    simp (maxSteps := 10000000) [SX.vc, SX.stop, SX.contS, SX.contB, SX.contW, SX.contR, SX.contD, SX.sxStep, SX.stepPure, SX.stepNew, SX.stepStore, SX.stepKeep, SX.guardIx, SX.evOp, SX.opd, SX.opds, SX.optOpd, SX.look, SX.putS, SX.gobs, SX.AllP, SX.leave, SX.lookC, SX.lookB, SX.lookT, SX.lookN, SX.findK, SX.evBuiltin, SX.ints, SX.foldI, SX.evBin, SX.evInt, SX.evStr, SX.evEq, SX.arith, SX.evLoad, SX.shapeUp, SX.evFieldAddr, SX.evField, SX.evIndexAddr, SX.evIndex, SX.evFill, SX.evBuild, SX.szs, SX.cellsV, SX.evNew, SX.evStore, SX.spliceL, SX.SV.cells, SX.evConv, SX.evSlice, SX.bnd, SX.evNil, SX.evUn, SX.evPick, SX.pickOpd, SX.popTo, SX.cnd, SX.env0, SX.TD.isAgg, SX.TD.isIface, SX.tails, SX.NotAgg, SX.evLookup, SX.evConvH, SX.evPtrEq, SX.isCells, SX.thaw, SX.frz, SX.fixB, SX.rootIx, SX.Froz, SX.frzStep, SX.fork, Go.Value.cells, Go.undef, cfg24]
    refine ⟨by (unfold SX.Ob; first | trivial | omega | ((try simp only [SX.inK]); (try simp [SX.den, SX.IsU8, *]); (try omega))), ?_⟩
    intro a8 w8 hr8' _
    have hr8 := h7.unbase hr8'
    have hF8 := hF7.keep hr8'.keeps (by
      intro x hx
      simp [frameAt, mutB] at hx
      rcases hx with rfl | rfl | rfl <;> omega)
    refine seg cfg24_ok mixed PanicFree.body 1000 [] [] hr8.rebase (by first | trivial | exact HpRep.nil | assumption) (by kernel_rfl) fun s_ hs_ => ?_
    simp (maxSteps := 10000000) [SX.vc, SX.stop, SX.contS, SX.contB, SX.contW, SX.contR, SX.contD, SX.sxStep, SX.stepPure, SX.stepNew, SX.stepStore, SX.stepKeep, SX.guardIx, SX.evOp, SX.opd, SX.opds, SX.optOpd, SX.look, SX.putS, SX.gobs, SX.AllP, SX.leave, SX.lookC, SX.lookB, SX.lookT, SX.lookN, SX.findK, SX.evBuiltin, SX.ints, SX.foldI, SX.evBin, SX.evInt, SX.evStr, SX.evEq, SX.arith, SX.evLoad, SX.shapeUp, SX.evFieldAddr, SX.evField, SX.evIndexAddr, SX.evIndex, SX.evFill, SX.evBuild, SX.szs, SX.cellsV, SX.evNew, SX.evStore, SX.spliceL, SX.SV.cells, SX.evConv, SX.evSlice, SX.bnd, SX.evNil, SX.evUn, SX.evPick, SX.pickOpd, SX.popTo, SX.cnd, SX.env0, SX.TD.isAgg, SX.TD.isIface, SX.tails, SX.NotAgg, SX.evLookup, SX.evConvH, SX.evPtrEq, SX.isCells, SX.thaw, SX.frz, SX.fixB, SX.rootIx, SX.Froz, SX.frzStep, SX.fork, Go.Value.cells, Go.undef, cfg24]
    refine ⟨by (unfold SX.Ob; first | trivial | omega | ((try simp only [SX.inK]); (try simp [SX.den, SX.IsU8, *]); (try omega))), ?_⟩
    intro a9 w9 hr9' _
    have hr9 := hr8.unbase hr9'
    have hF9 := hF8.keep hr9'.keeps (by
      intro x hx
      simp [frameAt, mutB] at hx
      rcases hx with rfl | rfl | rfl <;> omega)
    exact post_retn (endC1 hr9 rfl rfl rfl tok29 rfl ⟨_, rfl, hF9.mono fun x _ hx => by omega, hr9.keeps.toBelow⟩).1
end Go.Proofs
