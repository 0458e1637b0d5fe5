/- The cache in memory: drop. -/
import Derived.Test.YtppgccbloaijoaaCP
namespace Go.Proofs
set_option linter.unusedVariables false
set_option linter.unusedSimpArgs false
set_option linter.unusedSectionVars false
open Go Go.SX Go.RowKit Go.Ring

theorem RingRep.keep {w w' : World} {c : Nat} {h : Hd} {L : List Nat} {D : Nat → Ent} (hR : RingRep w c h L D) (hs : ∀ x, x = c ∨ x ∈ L → w'.heap[x]? = w.heap[x]?) : RingRep w' c h L D :=
  ⟨hR.nd, hR.nc, SO.rep_same hR.head (hs c (.inl rfl)), fun b hb => SO.rep_same (hR.node b hb) (hs b (.inr hb)), hR.flat⟩

theorem RingRep.lt {w : World} {c : Nat} {h : Hd} {L : List Nat} {D : Nat → Ent} (hR : RingRep w c h L D) {x : Nat} (hx : x = c ∨ x ∈ L) : x < w.heap.size := by
  rcases hx with rfl | hx
  · exact SO.rep_lt hR.head
  · exact SO.rep_lt (hR.node x hx)

set_option maxRecDepth 100000 in
set_option maxHeartbeats 4000000 in
theorem drop_ok (w : World) (c : Nat) (h : Hd) (L : List Nat) (D : Nat → Ent) (hR : RingRep w c h L D) (b : Nat) (hb : b ∈ L) (m : Int → Option SV) (hm : (SO.imap m).rep w h.mp) (hc : h.mp ≠ c) (hmL : h.mp ∉ L) :
    Calls Try.prog 17 (denL [.v (.pointer (some ⟨c, 0, none⟩)), .v (npv c (some b))]).toArray w fun e w' => e = .returned (.tuple #[]) ∧ KeepsTo w (h.mp :: c :: L) w' ∧ RingRep w' c h (del L b) D ∧ (SO.imap (delFn m (D b).lba)).rep w' h.mp := by
  have hcb : c ≠ b := fun e => hR.nc (e ▸ hb)
  have hmb : h.mp ≠ b := fun e => hmL (e ▸ hb)
  have hbr := hR.node b hb
  have hE : HpAll ⟨w, w.heap.size, h.mp :: c :: L⟩ w [(c, false, .cells (headM 2 h (.v (npv c L.getLast?)) (.v (npv c L.head?))) 59), (b, false, .cells (nodeCells (D b) (.v (npv c (predL L b))) (.v (npv c (succL L b)))) 52), (h.mp, false, .imap m)] :=
    ⟨⟨rep_den hR.head rfl, by simp, by simp [hcb, hc.symm]⟩, ⟨hbr, by simp, by simpa using hmb.symm⟩, ⟨hm, by simp, by simp⟩, trivial⟩
  refine enter (F := ⟨w, w.heap.size, h.mp :: c :: L⟩) Try.func17 rfl [.ptr 0 c 0, .ptr 1 b 0] _ (by simp [Try.f17]) hE (KeepsTo.refl w _) fun a hr => ?_
  refine seg cfg17_ok mixed PanicFree.body 1000 [] [] hr.rebase (by first | trivial | exact HpRep.nil | assumption) (by kernel_rfl) fun s_ hs_ => ?_
  simp (maxSteps := 10000000) [SX.vc, SX.stop, SX.contS, SX.contB, SX.contW, SX.contR, SX.contD, SX.sxStep, SX.stepPure, SX.stepNew, SX.stepStore, SX.stepKeep, SX.guardIx, SX.evOp, SX.opd, SX.opds, SX.optOpd, SX.look, SX.putS, SX.gobs, SX.AllP, SX.leave, SX.lookC, SX.lookB, SX.lookT, SX.lookN, SX.findK, SX.evBuiltin, SX.ints, SX.foldI, SX.evBin, SX.evInt, SX.evStr, SX.evEq, SX.arith, SX.evLoad, SX.shapeUp, SX.evFieldAddr, SX.evField, SX.evIndexAddr, SX.evIndex, SX.evFill, SX.evBuild, SX.szs, SX.cellsV, SX.evNew, SX.evStore, SX.spliceL, SX.SV.cells, SX.evConv, SX.evSlice, SX.bnd, SX.evNil, SX.evUn, SX.evPick, SX.pickOpd, SX.popTo, SX.cnd, SX.env0, SX.TD.isAgg, SX.TD.isIface, SX.tails, SX.NotAgg, SX.evLookup, SX.evConvH, SX.evPtrEq, SX.isCells, SX.thaw, SX.frz, SX.fixB, SX.rootIx, SX.Froz, SX.frzStep, SX.fork, Go.Value.cells, Go.undef, cfg17, Try.f17]
  refine ⟨by (unfold SX.Ob; first | trivial | omega | ((try simp only [SX.inK]); (try simp [SX.den, SX.IsU8, SX.AllP, *]); (try omega))), ?_⟩
  intro a1 w1 hr1' _
  have hr1 := hr.unbase hr1'
  have hA := hr1.all
  have hR1 : RingRep w1 c h L D := hR.keep fun x hx => hr1'.old (hR.lt hx) (by simp [mutB])
  refine post_call 21 [.ptr 1 b 0] hr1 (wanted_none rfl) rfl (callable 21 Try.func21) (out_ok w1 c h L D hR1 b hb) ?_
  rintro e w2 ⟨rfl, hk, hR2, hsame⟩
  refine ⟨_, rfl, ?_⟩
  have h2 := hr1.retK hk (fun x hx => .inr (by simp at hx ⊢; rcases hx with h | h <;> simp [h])) 5 (.tu []) rfl [(c, false, .cells (headM 2 h (.v (npv c (del L b).getLast?)) (.v (npv c (del L b).head?))) 59), (b, false, .cells (nodeCells (D b) (.v (npv c (predL L b))) (.v (npv c (succL L b)))) 52), (h.mp, true, .imap m)]
    ⟨⟨rep_den hR2.head rfl, by simp, by simp [hcb, hc.symm]⟩, ⟨SO.rep_same hA.2.1.1 hsame, by simp, by simpa using hmb.symm⟩, ⟨hk.same hA.2.2.1.1 (by simp [hc, hmL]), by simp, by simp⟩, trivial⟩ (by simp) rfl
  refine seg cfg17_ok mixed PanicFree.body 1000 [] [] h2.rebase (by first | trivial | exact HpRep.nil | assumption) (by kernel_rfl) fun s_ hs_ => ?_
  simp (maxSteps := 10000000) [SX.vc, SX.stop, SX.contS, SX.contB, SX.contW, SX.contR, SX.contD, SX.sxStep, SX.stepPure, SX.stepNew, SX.stepStore, SX.stepKeep, SX.guardIx, SX.evOp, SX.opd, SX.opds, SX.optOpd, SX.look, SX.putS, SX.gobs, SX.AllP, SX.leave, SX.lookC, SX.lookB, SX.lookT, SX.lookN, SX.findK, SX.evBuiltin, SX.ints, SX.foldI, SX.evBin, SX.evInt, SX.evStr, SX.evEq, SX.arith, SX.evLoad, SX.shapeUp, SX.evFieldAddr, SX.evField, SX.evIndexAddr, SX.evIndex, SX.evFill, SX.evBuild, SX.szs, SX.cellsV, SX.evNew, SX.evStore, SX.spliceL, SX.SV.cells, SX.evConv, SX.evSlice, SX.bnd, SX.evNil, SX.evUn, SX.evPick, SX.pickOpd, SX.popTo, SX.cnd, SX.env0, SX.TD.isAgg, SX.TD.isIface, SX.tails, SX.NotAgg, SX.evLookup, SX.evConvH, SX.evPtrEq, SX.isCells, SX.thaw, SX.frz, SX.fixB, SX.rootIx, SX.Froz, SX.frzStep, SX.fork, Go.Value.cells, Go.undef, cfg17, nodeCells, headM]
  refine ⟨by (unfold SX.Ob; first | trivial | omega | ((try simp only [SX.inK]); (try simp [SX.den, SX.IsU8, SX.AllP, *]); (try omega))), ?_⟩
  intro a3 w3 hr3 _
  refine post_deleteD hr3 rfl rfl rfl rfl (args := _) (t := 49) (t' := 3) (j := 2) (b := h.mp) (k := (D b).lba) rfl Try.underlying49 Try.underlying3 rfl rfl ?_
  intro w4 hr4
  refine seg cfg17_ok mixed PanicFree.body 1000 [] [] hr4 (by first | trivial | exact HpRep.nil | assumption) (by kernel_rfl) fun s_ hs_ => ?_
  simp (maxSteps := 10000000) [SX.vc, SX.stop, SX.contS, SX.contB, SX.contW, SX.contR, SX.contD, SX.sxStep, SX.stepPure, SX.stepNew, SX.stepStore, SX.stepKeep, SX.guardIx, SX.evOp, SX.opd, SX.opds, SX.optOpd, SX.look, SX.putS, SX.gobs, SX.AllP, SX.leave, SX.lookC, SX.lookB, SX.lookT, SX.lookN, SX.findK, SX.evBuiltin, SX.ints, SX.foldI, SX.evBin, SX.evInt, SX.evStr, SX.evEq, SX.arith, SX.evLoad, SX.shapeUp, SX.evFieldAddr, SX.evField, SX.evIndexAddr, SX.evIndex, SX.evFill, SX.evBuild, SX.szs, SX.cellsV, SX.evNew, SX.evStore, SX.spliceL, SX.SV.cells, SX.evConv, SX.evSlice, SX.bnd, SX.evNil, SX.evUn, SX.evPick, SX.pickOpd, SX.popTo, SX.cnd, SX.env0, SX.TD.isAgg, SX.TD.isIface, SX.tails, SX.NotAgg, SX.evLookup, SX.evConvH, SX.evPtrEq, SX.isCells, SX.thaw, SX.frz, SX.fixB, SX.rootIx, SX.Froz, SX.frzStep, SX.fork, Go.Value.cells, Go.undef, cfg17]
  refine ⟨by (unfold SX.Ob; first | trivial | omega | ((try simp only [SX.inK]); (try simp [SX.den, SX.IsU8, SX.AllP, *]); (try omega))), ?_⟩
  intro a5 w5 hr5 _
  have hr5' := h2.unbase hr5
  refine post_nil (end0 hr5' rfl ⟨rfl, hr5'.keeps, hR2.keep fun x hx => hr5.old (hR2.lt hx) ?_, hr5'.all.2.2.1.1⟩).2
  simp [mutB]
  rcases hx with rfl | hx
  · exact hc.symm
  · rintro rfl; exact hmL (mem_del.1 hx).1

def NewPost (w : World) (most : Int) (D : Nat → Ent) (e : Ending) (w' : World) : Prop :=
  ∃ c mp, e = .returned (.pointer (some ⟨c, 0, none⟩)) ∧ w.heap.size ≤ c ∧ w.heap.size ≤ mp ∧ mp ≠ c ∧ RingRep w' c ⟨max most 0, mp, 0, 0⟩ [] D ∧ (SO.imap fun _ => none).rep w' mp ∧ Below w.heap.size w w'

set_option maxRecDepth 100000 in
set_option maxHeartbeats 4000000 in
theorem new_ok (w : World) (most : Int) (hm : inK most) (D : Nat → Ent) :
    Calls Try.prog 7 (denL [.v (.int .i64 most)]).toArray w (NewPost w most D) := by
  refine enter (F := frame0 w) Try.func7 rfl [.v (.int .i64 most)] [] (by simp [Try.f7]) trivial (keeps0 w) fun a hr => ?_
  refine seg cfg7_ok mixed PanicFree.body 1000 [] [] hr (by first | trivial | exact HpRep.nil | assumption) (by kernel_rfl) fun s_ hs_ => ?_
  simp (maxSteps := 10000000) [SX.vc, SX.stop, SX.contS, SX.contB, SX.contW, SX.contR, SX.contD, SX.sxStep, SX.stepPure, SX.stepNew, SX.stepStore, SX.stepKeep, SX.guardIx, SX.evOp, SX.opd, SX.opds, SX.optOpd, SX.look, SX.putS, SX.gobs, SX.AllP, SX.leave, SX.lookC, SX.lookB, SX.lookT, SX.lookN, SX.findK, SX.evBuiltin, SX.ints, SX.foldI, SX.evBin, SX.evInt, SX.evStr, SX.evEq, SX.arith, SX.evLoad, SX.shapeUp, SX.evFieldAddr, SX.evField, SX.evIndexAddr, SX.evIndex, SX.evFill, SX.evBuild, SX.szs, SX.cellsV, SX.evNew, SX.evStore, SX.spliceL, SX.SV.cells, SX.evConv, SX.evSlice, SX.bnd, SX.evNil, SX.evUn, SX.evPick, SX.pickOpd, SX.popTo, SX.cnd, SX.env0, SX.TD.isAgg, SX.TD.isIface, SX.tails, SX.NotAgg, SX.evLookup, SX.evConvH, SX.evPtrEq, SX.isCells, SX.thaw, SX.frz, SX.fixB, SX.rootIx, SX.Froz, SX.frzStep, SX.fork, Go.Value.cells, Go.undef, cfg7, Try.f7]
  refine ⟨by (unfold SX.Ob; first | trivial | omega | ((try simp only [SX.inK]); (try simp [SX.den, SX.IsU8, SX.AllP, *]); (try omega))), ?_⟩
  intro a1 w1 hr1 _
  obtain ⟨s_0, hs00⟩ : ∃ x, x = s_ := ⟨_, rfl⟩
  subst hs00
  have hA := hr1.all
  have hmax : (if most < 0 then 0 else most) = max most 0 := by omega
  refine post_retn (end1 hr1 rfl rfl ⟨s_0 + 1, s_0, rfl, by omega, by omega, by omega, ⟨by simp, by simp, ?_, fun b hb => (by cases hb), fun b hb => (by cases hb)⟩, hA.1.1, hr1.keeps.toBelow⟩).1
  refine rep_den hA.2.1.1 ?_
  rw [hmax]; rfl
end Go.Proofs
