/- The cache as it stands in memory; Get. -/
import Derived.Test.YtppgccbloaijoaaCD
namespace Go.Proofs
set_option linter.unusedVariables false
set_option linter.unusedSimpArgs false
set_option linter.unusedSectionVars false
open Go Go.SX Go.RowKit Go.Ring

def mOf (L : List Nat) (D : Nat → Ent) : Int → Option SV := fun x => (L.find? fun b => (D b).lba == x).map fun b => .v (.pointer (some ⟨b, 0, none⟩))
def mOfT (L : List Nat) (D : Nat → Ent) (l : Int) (i b : Nat) : Int → Option SV := fun x => if x = l then some (.ptr i b 0) else mOf L D x

structure CRep (w : World) (c : Nat) (h : Hd) (L : List Nat) (D : Nat → Ent) (G : Nat → Nat → Int) : Prop where
  ring : RingRep w c h L D
  map : (SO.imap (mOf L D)).rep w h.mp
  mpc : h.mp ≠ c
  mpL : h.mp ∉ L
  inj : ∀ a ∈ L, ∀ b ∈ L, (D a).lba = (D b).lba → a = b
  byt : ∀ b ∈ L, ∃ db cap, (D b).bs = .slice (some ⟨db, 0, none⟩) 16 cap ∧ Blk w db cap (G b) ∧ db ≠ h.mp ∧ db ≠ c ∧ db ∉ L

theorem mOf_find {L : List Nat} {D : Nat → Ent} {l : Int} {b : Nat} (hf : L.find? (fun b => (D b).lba == l) = some b) (i : Nat) (x : Int) : (mOf L D x).map den = (mOfT L D l i b x).map den := by
  simp only [mOfT]
  by_cases hx : x = l
  · subst hx; simp [mOf, hf, den]
  · simp [hx]

/-- What Get does. -/
def GetPost (w : World) (c : Nat) (h : Hd) (L : List Nat) (D : Nat → Ent) (G : Nat → Nat → Int) (lba ver : Int) (e : Ending) (w' : World) : Prop :=
  KeepsTo w (h.mp :: c :: L) w' ∧
  ((∃ b b' cap', L.find? (fun b => (D b).lba == lba) = some b ∧ (D b).ver = ver ∧ e = .returned (.tuple #[.slice (some ⟨b', 0, none⟩) 16 cap', .bool true]) ∧ w.heap.size ≤ b' ∧ Blk w' b' cap' (G b) ∧ CRep w' c { h with hits := h.hits + 1 } (b :: del L b) D G) ∨
   ((∀ b, L.find? (fun b => (D b).lba == lba) = some b → (D b).ver ≠ ver) ∧ e = .returned (.tuple #[.slice none 0 0, .bool false]) ∧ CRep w' c { h with fails := h.fails + 1 } L D G))

theorem CRep.fails {w w' : World} {c : Nat} {h h' : Hd} {L : List Nat} {D : Nat → Ent} {G : Nat → Nat → Int} (hC : CRep w c h L D G) (hmp : h'.mp = h.mp) (hk : KeepsTo w [c] w') (hc : (SO.cells (headCells h' (.v (npv c L.getLast?)) (.v (npv c L.head?))) 59).rep w' c) : CRep w' c h' L D G := by
  refine ⟨⟨hC.ring.nd, hC.ring.nc, hc, fun b hb => hk.same (hC.ring.node b hb) ?_, hC.ring.flat⟩, ?_, by rw [hmp]; exact hC.mpc, by rw [hmp]; exact hC.mpL, hC.inj, fun b hb => ?_⟩
  · simp; rintro rfl; exact hC.ring.nc hb
  · rw [hmp]; exact hk.same hC.map (by simpa using hC.mpc)
  · obtain ⟨db, cap, h1, ⟨u, h2⟩, h3, h4, h5⟩ := hC.byt b hb
    exact ⟨db, cap, h1, ⟨u, hk.same h2 (by simpa using h4)⟩, by rw [hmp]; exact h3, h4, h5⟩

theorem CRep.keep {w w' : World} {c : Nat} {h : Hd} {L : List Nat} {D : Nat → Ent} {G : Nat → Nat → Int} (hC : CRep w c h L D G) (hb : Below w.heap.size w w') : CRep w' c h L D G := by
  have hk := KeepsTo.below hb []
  refine ⟨hC.ring.keep fun x hx => hb.block x (hC.ring.lt hx), hk.same hC.map (by simp), hC.mpc, hC.mpL, hC.inj, fun b hb => ?_⟩
  obtain ⟨db, cap, h1, ⟨u, h2⟩, h3⟩ := hC.byt b hb
  exact ⟨db, cap, h1, ⟨u, hk.same h2 (by simp)⟩, h3⟩

set_option maxRecDepth 100000 in
set_option maxHeartbeats 4000000 in
theorem get_none (w : World) (c : Nat) (h : Hd) (L : List Nat) (D : Nat → Ent) (G : Nat → Nat → Int) (hC : CRep w c h L D G) (lba ver : Int) (hh : inK (h.fails + 1)) (hf : L.find? (fun b => (D b).lba == lba) = none) :
    Calls Try.prog 10 (denL [.v (.pointer (some ⟨c, 0, none⟩)), .v (.int .i64 lba), .v (.int .i64 ver)]).toArray w (GetPost w c h L D G lba ver) := by
  have hE : HpAll ⟨w, w.heap.size, h.mp :: c :: L⟩ w [(c, false, .cells (headM 1 h (.v (npv c L.getLast?)) (.v (npv c L.head?))) 59), (h.mp, false, .imap (mOf L D))] :=
    ⟨⟨rep_den hC.ring.head rfl, by simp, by simpa using hC.mpc.symm⟩, ⟨hC.map, by simp, by simp⟩, trivial⟩
  have hm : mOf L D lba = none := by simp [mOf, hf]
  refine enter (F := ⟨w, w.heap.size, h.mp :: c :: L⟩) Try.func10 rfl [.ptr 0 c 0, .v (.int .i64 lba), .v (.int .i64 ver)] _ (by simp [Try.f10]) hE (KeepsTo.refl w _) fun a hr => ?_
  refine seg cfg10_ok mixed PanicFree.body 1000 [true] [(17, true)] hr.rebase (by first | trivial | exact HpRep.nil | assumption) (by kernel_rfl) fun s_ hs_ => ?_
  simp (maxSteps := 10000000) [SX.vc, SX.stop, SX.contS, SX.contB, SX.contW, SX.contR, SX.contD, SX.sxStep, SX.stepPure, SX.stepNew, SX.stepStore, SX.stepKeep, SX.guardIx, SX.evOp, SX.opd, SX.opds, SX.optOpd, SX.look, SX.putS, SX.gobs, SX.AllP, SX.leave, SX.lookC, SX.lookB, SX.lookT, SX.lookN, SX.findK, SX.evBuiltin, SX.ints, SX.foldI, SX.evBin, SX.evInt, SX.evStr, SX.evEq, SX.arith, SX.evLoad, SX.shapeUp, SX.evFieldAddr, SX.evField, SX.evIndexAddr, SX.evIndex, SX.evFill, SX.evBuild, SX.szs, SX.cellsV, SX.evNew, SX.evStore, SX.spliceL, SX.SV.cells, SX.evConv, SX.evSlice, SX.bnd, SX.evNil, SX.evUn, SX.evPick, SX.pickOpd, SX.popTo, SX.cnd, SX.env0, SX.TD.isAgg, SX.TD.isIface, SX.tails, SX.NotAgg, SX.evLookup, SX.evConvH, SX.evPtrEq, SX.isCells, SX.thaw, SX.frz, SX.fixB, SX.rootIx, SX.Froz, SX.frzStep, SX.fork, Go.Value.cells, Go.undef, cfg10, Try.f10, headM, hm]
  refine ⟨by (unfold SX.Ob; first | trivial | omega | ((try simp only [SX.inK]); (try simp [SX.den, SX.IsU8, SX.AllP, *]); (try omega))), ?_⟩
  intro a1 w1 hr1' _
  have hr1 := hr.unbase hr1'
  have hC1 : CRep w1 c h L D G := hC.keep (by simpa [mutB] using hr1'.keeps.toBelow)
  refine post_call 20 [.ptr 0 c 8, .v (.int .i64 1)] hr1 (wanted_none rfl) rfl (callable 20 Try.func20) (add_ok w1 c 8 (headM 1 h (.v (npv c L.getLast?)) (.v (npv c L.head?))) h.fails 1 hr1.all.1.1 rfl hh) ?_
  rintro e w2 ⟨rfl, hk2, hc2⟩
  refine ⟨_, rfl, ?_⟩
  have hC2 : CRep w2 c { h with fails := h.fails + 1 } L D G := hC1.fails rfl hk2 (rep_den hc2 rfl)
  have h2 := hr1.retK hk2 (by simp) 28 (.v (.int .i64 (h.fails + 1))) rfl [] trivial (by simp) rfl
  refine seg cfg10_ok mixed PanicFree.body 1000 [] [] h2.rebase (by first | trivial | exact HpRep.nil | assumption) (by kernel_rfl) fun s_ hs_ => ?_
  simp (maxSteps := 10000000) [SX.vc, SX.stop, SX.contS, SX.contB, SX.contW, SX.contR, SX.contD, SX.sxStep, SX.stepPure, SX.stepNew, SX.stepStore, SX.stepKeep, SX.guardIx, SX.evOp, SX.opd, SX.opds, SX.optOpd, SX.look, SX.putS, SX.gobs, SX.AllP, SX.leave, SX.lookC, SX.lookB, SX.lookT, SX.lookN, SX.findK, SX.evBuiltin, SX.ints, SX.foldI, SX.evBin, SX.evInt, SX.evStr, SX.evEq, SX.arith, SX.evLoad, SX.shapeUp, SX.evFieldAddr, SX.evField, SX.evIndexAddr, SX.evIndex, SX.evFill, SX.evBuild, SX.szs, SX.cellsV, SX.evNew, SX.evStore, SX.spliceL, SX.SV.cells, SX.evConv, SX.evSlice, SX.bnd, SX.evNil, SX.evUn, SX.evPick, SX.pickOpd, SX.popTo, SX.cnd, SX.env0, SX.TD.isAgg, SX.TD.isIface, SX.tails, SX.NotAgg, SX.evLookup, SX.evConvH, SX.evPtrEq, SX.isCells, SX.thaw, SX.frz, SX.fixB, SX.rootIx, SX.Froz, SX.frzStep, SX.fork, Go.Value.cells, Go.undef, cfg10]
  refine ⟨by (unfold SX.Ob; first | trivial | omega | ((try simp only [SX.inK]); (try simp [SX.den, SX.IsU8, SX.AllP, *]); (try omega))), ?_⟩
  intro a3 w3 hr3' _
  have hr3 := h2.unbase hr3'
  exact post_retn (end2 hr3 rfl rfl rfl ⟨hr3.keeps, .inr ⟨fun b hb => (by rw [hf] at hb; cases hb), rfl, hC2.keep (by simpa [mutB] using hr3'.keeps.toBelow)⟩⟩).1

set_option maxRecDepth 100000 in
set_option maxHeartbeats 4000000 in
theorem get_other (w : World) (c : Nat) (h : Hd) (L : List Nat) (D : Nat → Ent) (G : Nat → Nat → Int) (hC : CRep w c h L D G) (lba ver : Int) (hh : inK (h.fails + 1)) (b : Nat) (hf : L.find? (fun b => (D b).lba == lba) = some b) (hv : (D b).ver ≠ ver) :
    Calls Try.prog 10 (denL [.v (.pointer (some ⟨c, 0, none⟩)), .v (.int .i64 lba), .v (.int .i64 ver)]).toArray w (GetPost w c h L D G lba ver) := by
  have hbL := List.mem_of_find?_eq_some hf
  have hcb : c ≠ b := fun e => hC.ring.nc (e ▸ hbL)
  have hmb : h.mp ≠ b := fun e => hC.mpL (e ▸ hbL)
  have hE : HpAll ⟨w, w.heap.size, h.mp :: c :: L⟩ w [(c, false, .cells (headM 1 h (.v (npv c L.getLast?)) (.v (npv c L.head?))) 59), (h.mp, false, .imap (mOfT L D lba 2 b)), (b, false, .cells (nodeCells (D b) (.v (npv c (predL L b))) (.v (npv c (succL L b)))) 52)] :=
    ⟨⟨rep_den hC.ring.head rfl, by simp, by simp [hC.mpc.symm, hcb]⟩, ⟨imap_congr hC.map (mOf_find hf 2), by simp, by simpa using hmb⟩, ⟨hC.ring.node b hbL, by simp, by simp⟩, trivial⟩
  have hm : mOfT L D lba 2 b lba = some (.ptr 2 b 0) := by simp [mOfT]
  refine enter (F := ⟨w, w.heap.size, h.mp :: c :: L⟩) Try.func10 rfl [.ptr 0 c 0, .v (.int .i64 lba), .v (.int .i64 ver)] _ (by simp [Try.f10]) hE (KeepsTo.refl w _) fun a hr => ?_
  refine seg cfg10_ok mixed PanicFree.body 1000 [true] [] hr.rebase (by first | trivial | exact HpRep.nil | assumption) (by kernel_rfl) fun s_ hs_ => ?_
  simp (maxSteps := 10000000) [SX.vc, SX.stop, SX.contS, SX.contB, SX.contW, SX.contR, SX.contD, SX.sxStep, SX.stepPure, SX.stepNew, SX.stepStore, SX.stepKeep, SX.guardIx, SX.evOp, SX.opd, SX.opds, SX.optOpd, SX.look, SX.putS, SX.gobs, SX.AllP, SX.leave, SX.lookC, SX.lookB, SX.lookT, SX.lookN, SX.findK, SX.evBuiltin, SX.ints, SX.foldI, SX.evBin, SX.evInt, SX.evStr, SX.evEq, SX.arith, SX.evLoad, SX.shapeUp, SX.evFieldAddr, SX.evField, SX.evIndexAddr, SX.evIndex, SX.evFill, SX.evBuild, SX.szs, SX.cellsV, SX.evNew, SX.evStore, SX.spliceL, SX.SV.cells, SX.evConv, SX.evSlice, SX.bnd, SX.evNil, SX.evUn, SX.evPick, SX.pickOpd, SX.popTo, SX.cnd, SX.env0, SX.TD.isAgg, SX.TD.isIface, SX.tails, SX.NotAgg, SX.evLookup, SX.evConvH, SX.evPtrEq, SX.isCells, SX.thaw, SX.frz, SX.fixB, SX.rootIx, SX.Froz, SX.frzStep, SX.fork, Go.Value.cells, Go.undef, cfg10, Try.f10, headM, nodeCells, hm, hv]
  refine ⟨by (unfold SX.Ob; first | trivial | omega | ((try simp only [SX.inK]); (try simp [SX.den, SX.IsU8, SX.AllP, *]); (try omega))), ?_⟩
  intro a1 w1 hr1' _
  have hr1 := hr.unbase hr1'
  have hC1 : CRep w1 c h L D G := hC.keep (by simpa [mutB] using hr1'.keeps.toBelow)
  refine post_call 20 [.ptr 0 c 8, .v (.int .i64 1)] hr1 (wanted_none rfl) rfl (callable 20 Try.func20) (add_ok w1 c 8 (headM 1 h (.v (npv c L.getLast?)) (.v (npv c L.head?))) h.fails 1 hr1.all.1.1 rfl hh) ?_
  rintro e w2 ⟨rfl, hk2, hc2⟩
  refine ⟨_, rfl, ?_⟩
  have hC2 : CRep w2 c { h with fails := h.fails + 1 } L D G := hC1.fails rfl hk2 (rep_den hc2 rfl)
  have h2 := hr1.retK hk2 (by simp) 28 (.v (.int .i64 (h.fails + 1))) rfl [] trivial (by simp) rfl
  refine seg cfg10_ok mixed PanicFree.body 1000 [] [] h2.rebase (by first | trivial | exact HpRep.nil | assumption) (by kernel_rfl) fun s_ hs_ => ?_
  simp (maxSteps := 10000000) [SX.vc, SX.stop, SX.contS, SX.contB, SX.contW, SX.contR, SX.contD, SX.sxStep, SX.stepPure, SX.stepNew, SX.stepStore, SX.stepKeep, SX.guardIx, SX.evOp, SX.opd, SX.opds, SX.optOpd, SX.look, SX.putS, SX.gobs, SX.AllP, SX.leave, SX.lookC, SX.lookB, SX.lookT, SX.lookN, SX.findK, SX.evBuiltin, SX.ints, SX.foldI, SX.evBin, SX.evInt, SX.evStr, SX.evEq, SX.arith, SX.evLoad, SX.shapeUp, SX.evFieldAddr, SX.evField, SX.evIndexAddr, SX.evIndex, SX.evFill, SX.evBuild, SX.szs, SX.cellsV, SX.evNew, SX.evStore, SX.spliceL, SX.SV.cells, SX.evConv, SX.evSlice, SX.bnd, SX.evNil, SX.evUn, SX.evPick, SX.pickOpd, SX.popTo, SX.cnd, SX.env0, SX.TD.isAgg, SX.TD.isIface, SX.tails, SX.NotAgg, SX.evLookup, SX.evConvH, SX.evPtrEq, SX.isCells, SX.thaw, SX.frz, SX.fixB, SX.rootIx, SX.Froz, SX.frzStep, SX.fork, Go.Value.cells, Go.undef, cfg10]
  refine ⟨by (unfold SX.Ob; first | trivial | omega | ((try simp only [SX.inK]); (try simp [SX.den, SX.IsU8, SX.AllP, *]); (try omega))), ?_⟩
  intro a3 w3 hr3' _
  have hr3 := h2.unbase hr3'
  exact post_retn (end2 hr3 rfl rfl rfl ⟨hr3.keeps, .inr ⟨fun b' hb' => (by rw [hf] at hb'; cases hb'; exact hv), rfl, hC2.keep (by simpa [mutB] using hr3'.keeps.toBelow)⟩⟩).1

theorem find_iff {L : List Nat} {D : Nat → Ent} (inj : ∀ a ∈ L, ∀ b ∈ L, (D a).lba = (D b).lba → a = b) {x : Int} {b : Nat} : L.find? (fun b => (D b).lba == x) = some b ↔ b ∈ L ∧ (D b).lba = x := by
  constructor
  · intro h; exact ⟨List.mem_of_find?_eq_some h, by simpa using List.find?_some h⟩
  · rintro ⟨h1, h2⟩
    cases h : L.find? (fun b => (D b).lba == x) with
    | none => exact absurd (List.find?_eq_none.1 h b h1) (by simp [h2])
    | some a => rw [inj a (List.mem_of_find?_eq_some h) b h1 (by have := List.find?_some h; simp at this; rw [this, h2])]

theorem mOf_same {L L' : List Nat} {D : Nat → Ent} (inj : ∀ a ∈ L, ∀ b ∈ L, (D a).lba = (D b).lba → a = b) (hs : ∀ x, x ∈ L ↔ x ∈ L') : mOf L D = mOf L' D := by
  have inj' : ∀ a ∈ L', ∀ b ∈ L', (D a).lba = (D b).lba → a = b := fun a ha b hb => inj a ((hs a).2 ha) b ((hs b).2 hb)
  funext x
  simp only [mOf]
  congr 1
  apply Option.ext
  intro b
  rw [find_iff inj, find_iff inj', hs b]

theorem mem_front {L : List Nat} {b x : Nat} (hb : b ∈ L) : x ∈ L ↔ x ∈ b :: del L b := by
  rw [List.mem_cons, mem_del]
  by_cases h : x = b
  · subst h; simp [hb]
  · simp [h]

theorem CRep.front {w w' : World} {c : Nat} {h : Hd} {L L' : List Nat} {D : Nat → Ent} {G : Nat → Nat → Int} (hC : CRep w c h L D G) (hk : KeepsTo w (c :: L) w') (hR : RingRep w' c h L' D) (hs : ∀ x, x ∈ L ↔ x ∈ L') : CRep w' c h L' D G := by
  refine ⟨hR, ?_, hC.mpc, fun hx => hC.mpL ((hs _).2 hx), fun a ha b hb => hC.inj a ((hs a).2 ha) b ((hs b).2 hb), fun b hb => ?_⟩
  · rw [← mOf_same hC.inj hs]
    exact hk.same hC.map (by simpa using ⟨hC.mpc, hC.mpL⟩)
  · obtain ⟨db, cap, h1, ⟨u, h2⟩, h3, h4, h5⟩ := hC.byt b ((hs b).2 hb)
    exact ⟨db, cap, h1, ⟨u, hk.same h2 (by simpa using ⟨h4, h5⟩)⟩, h3, h4, fun hx => h5 ((hs _).2 hx)⟩

theorem npv_flat (c : Nat) (x : Option Nat) : NotAgg (den (.v (npv c x))) := by cases x <;> trivial

set_option maxRecDepth 100000 in
set_option maxHeartbeats 8000000 in
theorem get_hit (w : World) (c : Nat) (h : Hd) (L : List Nat) (D : Nat → Ent) (G : Nat → Nat → Int) (hC : CRep w c h L D G) (lba ver : Int) (hh : inK (h.hits + 1)) (b : Nat) (hf : L.find? (fun b => (D b).lba == lba) = some b) (hv : (D b).ver = ver) :
    Calls Try.prog 10 (denL [.v (.pointer (some ⟨c, 0, none⟩)), .v (.int .i64 lba), .v (.int .i64 ver)]).toArray w (GetPost w c h L D G lba ver) := by
  have hbL := List.mem_of_find?_eq_some hf
  have hcb : c ≠ b := fun e => hC.ring.nc (e ▸ hbL)
  have hmb : h.mp ≠ b := fun e => hC.mpL (e ▸ hbL)
  have hfl := hC.ring.flat b hbL
  have hE : HpAll ⟨w, w.heap.size, h.mp :: c :: L⟩ w [(c, false, .cells (headM 1 h (.v (npv c L.getLast?)) (.v (npv c L.head?))) 59), (h.mp, false, .imap (mOfT L D lba 2 b)), (b, false, .cells (nodeCells (D b) (.v (npv c (predL L b))) (.v (npv c (succL L b)))) 52)] :=
    ⟨⟨rep_den hC.ring.head rfl, by simp, by simp [hC.mpc.symm, hcb]⟩, ⟨imap_congr hC.map (mOf_find hf 2), by simp, by simpa using hmb⟩, ⟨hC.ring.node b hbL, by simp, by simp⟩, trivial⟩
  have hm : mOfT L D lba 2 b lba = some (.ptr 2 b 0) := by simp [mOfT]
  refine enter (F := ⟨w, w.heap.size, h.mp :: c :: L⟩) Try.func10 rfl [.ptr 0 c 0, .v (.int .i64 lba), .v (.int .i64 ver)] _ (by simp [Try.f10]) hE (KeepsTo.refl w _) fun a hr => ?_
  refine seg cfg10_ok mixed PanicFree.body 1000 [false] [] hr.rebase (by first | trivial | exact HpRep.nil | assumption) (by kernel_rfl) fun s_ hs_ => ?_
  simp (maxSteps := 10000000) [SX.vc, SX.stop, SX.contS, SX.contB, SX.contW, SX.contR, SX.contD, SX.sxStep, SX.stepPure, SX.stepNew, SX.stepStore, SX.stepKeep, SX.guardIx, SX.evOp, SX.opd, SX.opds, SX.optOpd, SX.look, SX.putS, SX.gobs, SX.AllP, SX.leave, SX.lookC, SX.lookB, SX.lookT, SX.lookN, SX.findK, SX.evBuiltin, SX.ints, SX.foldI, SX.evBin, SX.evInt, SX.evStr, SX.evEq, SX.arith, SX.evLoad, SX.shapeUp, SX.evFieldAddr, SX.evField, SX.evIndexAddr, SX.evIndex, SX.evFill, SX.evBuild, SX.szs, SX.cellsV, SX.evNew, SX.evStore, SX.spliceL, SX.SV.cells, SX.evConv, SX.evSlice, SX.bnd, SX.evNil, SX.evUn, SX.evPick, SX.pickOpd, SX.popTo, SX.cnd, SX.env0, SX.TD.isAgg, SX.TD.isIface, SX.tails, SX.NotAgg, SX.evLookup, SX.evConvH, SX.evPtrEq, SX.isCells, SX.thaw, SX.frz, SX.fixB, SX.rootIx, SX.Froz, SX.frzStep, SX.fork, Go.Value.cells, Go.undef, cfg10, Try.f10, headM, nodeCells, hm, hv]
  refine ⟨by (unfold SX.Ob; first | trivial | omega | ((try simp only [SX.inK]); (try simp [SX.den, SX.IsU8, SX.AllP, *]); (try omega))), ?_⟩
  intro a1 w1 hr1' _
  have hr1 := hr.unbase hr1'
  have hC1 : CRep w1 c h L D G := hC.keep (by simpa [mutB] using hr1'.keeps.toBelow)
  refine post_call 20 [.ptr 0 c 7, .v (.int .i64 1)] hr1 (wanted_none rfl) rfl (callable 20 Try.func20) (add_ok w1 c 7 (headM 1 h (.v (npv c L.getLast?)) (.v (npv c L.head?))) h.hits 1 hr1.all.1.1 rfl hh) ?_
  rintro e w2 ⟨rfl, hk2, hc2⟩
  refine ⟨_, rfl, ?_⟩
  have hC2 : CRep w2 c { h with hits := h.hits + 1 } L D G := hC1.fails rfl hk2 (rep_den hc2 rfl)
  have h2 := hr1.retK hk2 (by simp) 32 (.v (.int .i64 (h.hits + 1))) rfl [(b, false, .cells (nodeCells (D b) (.v (npv c (predL L b))) (.v (npv c (succL L b)))) 52)] ⟨⟨hC2.ring.node b hbL, by simp, by simp⟩, trivial⟩ (by simp) rfl
  refine seg cfg10_ok mixed PanicFree.body 1000 [] [] h2.rebase (by first | trivial | exact HpRep.nil | assumption) (by kernel_rfl) fun s_ hs_ => ?_
  simp (maxSteps := 10000000) [SX.vc, SX.stop, SX.contS, SX.contB, SX.contW, SX.contR, SX.contD, SX.sxStep, SX.stepPure, SX.stepNew, SX.stepStore, SX.stepKeep, SX.guardIx, SX.evOp, SX.opd, SX.opds, SX.optOpd, SX.look, SX.putS, SX.gobs, SX.AllP, SX.leave, SX.lookC, SX.lookB, SX.lookT, SX.lookN, SX.findK, SX.evBuiltin, SX.ints, SX.foldI, SX.evBin, SX.evInt, SX.evStr, SX.evEq, SX.arith, SX.evLoad, SX.shapeUp, SX.evFieldAddr, SX.evField, SX.evIndexAddr, SX.evIndex, SX.evFill, SX.evBuild, SX.szs, SX.cellsV, SX.evNew, SX.evStore, SX.spliceL, SX.SV.cells, SX.evConv, SX.evSlice, SX.bnd, SX.evNil, SX.evUn, SX.evPick, SX.pickOpd, SX.popTo, SX.cnd, SX.env0, SX.TD.isAgg, SX.TD.isIface, SX.tails, SX.NotAgg, SX.evLookup, SX.evConvH, SX.evPtrEq, SX.isCells, SX.thaw, SX.frz, SX.fixB, SX.rootIx, SX.Froz, SX.frzStep, SX.fork, Go.Value.cells, Go.undef, cfg10]
  refine ⟨by (unfold SX.Ob; first | trivial | omega | ((try simp only [SX.inK]); (try simp [SX.den, SX.IsU8, SX.AllP, *]); (try omega))), ?_⟩
  intro a3 w3 hr3' _
  have hr3 := h2.unbase hr3'
  have hC3 : CRep w3 c { h with hits := h.hits + 1 } L D G := hC2.keep (by simpa [mutB] using hr3'.keeps.toBelow)
  refine post_call 21 [.ptr 2 b 0] hr3 (wanted_none rfl) rfl (callable 21 Try.func21) (out_ok w3 c _ L D hC3.ring b hbL) ?_
  rintro e w4 ⟨rfl, hk4, hR4, hs4⟩
  refine ⟨_, rfl, ?_⟩
  have hb4 := SO.rep_same (hC3.ring.node b hbL) hs4
  have h4 := hr3.retK hk4 (fun x hx => .inr (by simp at hx ⊢; rcases hx with h | h <;> simp [h])) 34 (.tu []) rfl [] trivial (by simp) rfl
  refine seg cfg10_ok mixed PanicFree.body 1000 [] [] h4.rebase (by first | trivial | exact HpRep.nil | assumption) (by kernel_rfl) fun s_ hs_ => ?_
  simp (maxSteps := 10000000) [SX.vc, SX.stop, SX.contS, SX.contB, SX.contW, SX.contR, SX.contD, SX.sxStep, SX.stepPure, SX.stepNew, SX.stepStore, SX.stepKeep, SX.guardIx, SX.evOp, SX.opd, SX.opds, SX.optOpd, SX.look, SX.putS, SX.gobs, SX.AllP, SX.leave, SX.lookC, SX.lookB, SX.lookT, SX.lookN, SX.findK, SX.evBuiltin, SX.ints, SX.foldI, SX.evBin, SX.evInt, SX.evStr, SX.evEq, SX.arith, SX.evLoad, SX.shapeUp, SX.evFieldAddr, SX.evField, SX.evIndexAddr, SX.evIndex, SX.evFill, SX.evBuild, SX.szs, SX.cellsV, SX.evNew, SX.evStore, SX.spliceL, SX.SV.cells, SX.evConv, SX.evSlice, SX.bnd, SX.evNil, SX.evUn, SX.evPick, SX.pickOpd, SX.popTo, SX.cnd, SX.env0, SX.TD.isAgg, SX.TD.isIface, SX.tails, SX.NotAgg, SX.evLookup, SX.evConvH, SX.evPtrEq, SX.isCells, SX.thaw, SX.frz, SX.fixB, SX.rootIx, SX.Froz, SX.frzStep, SX.fork, Go.Value.cells, Go.undef, cfg10]
  refine ⟨by (unfold SX.Ob; first | trivial | omega | ((try simp only [SX.inK]); (try simp [SX.den, SX.IsU8, SX.AllP, *]); (try omega))), ?_⟩
  intro a5 w5 hr5' _
  have hr5 := h4.unbase hr5'
  have hb5 : Below w4.heap.size w4 w5 := by simpa [mutB] using hr5'.keeps.toBelow
  have hR5 := hR4.keep (fun x hx => hb5.block x (hR4.lt hx))
  have hk5 : KeepsTo w3 (c :: L) w5 := Keeps.to hk4 (KeepsTo.below hb5 []) (by simp)
  refine post_call 19 [.ptr 0 c 0, .ptr 2 b 0] hr5 (wanted_none rfl) rfl (callable 19 Try.func19) (first_ok w5 c _ (del L b) D hR5 b (by simp [mem_del]) hcb.symm hfl _ _ (SO.rep_same hb4 (hb5.block b (SO.rep_lt hb4))) (npv_flat _ _) (npv_flat _ _)) ?_
  rintro e w6 ⟨rfl, hk6, hR6⟩
  refine ⟨_, rfl, ?_⟩
  have hsub : ∀ x ∈ b :: c :: del L b, x ∈ c :: L := fun x hx => by
    simp [mem_del] at hx ⊢
    rcases hx with rfl | rfl | hx
    · exact .inr hbL
    · exact .inl rfl
    · exact .inr hx.1
  have hk36 : KeepsTo w3 (c :: L) w6 := Keeps.to hk5 hk6 fun x hx => .inr (hsub x hx)
  have hC6 := hC3.front hk36 hR6 (fun x => mem_front hbL)
  obtain ⟨db, cap, hbs, hB6, hd1, hd2, hd3⟩ := hC6.byt b (by simp)
  have hdb : db ≠ b := fun e => hd3 (by simp [e])
  have hBl : db < w6.heap.size := by obtain ⟨u, hu⟩ := hB6; exact SO.rep_lt hu
  have h6 := hr5.retK hk6 (fun x hx => .inr (by have := hsub x hx; simp at this ⊢; exact .inr this)) 37 (.tu []) rfl [(db, false, .any), (h.mp, false, .any), (b, false, .cells (nodeCells (D b) (.v (npv c (predL (b :: del L b) b))) (.v (npv c (succL (b :: del L b) b)))) 52)]
    ⟨⟨hBl, by simp, by simpa using ⟨hd1, hdb⟩⟩, ⟨SO.rep_lt hC6.map, by simp, by simpa using hmb⟩, ⟨hR6.node b (by simp), by simp, by simp⟩, trivial⟩ (by simp) rfl
  refine seg cfg10_ok mixed PanicFree.body 1000 [] [] h6.rebase (by first | trivial | exact HpRep.nil | assumption) (by kernel_rfl) fun s_ hs_ => ?_
  simp (maxSteps := 10000000) [SX.vc, SX.stop, SX.contS, SX.contB, SX.contW, SX.contR, SX.contD, SX.sxStep, SX.stepPure, SX.stepNew, SX.stepStore, SX.stepKeep, SX.guardIx, SX.evOp, SX.opd, SX.opds, SX.optOpd, SX.look, SX.putS, SX.gobs, SX.AllP, SX.leave, SX.lookC, SX.lookB, SX.lookT, SX.lookN, SX.findK, SX.evBuiltin, SX.ints, SX.foldI, SX.evBin, SX.evInt, SX.evStr, SX.evEq, SX.arith, SX.evLoad, SX.shapeUp, SX.evFieldAddr, SX.evField, SX.evIndexAddr, SX.evIndex, SX.evFill, SX.evBuild, SX.szs, SX.cellsV, SX.evNew, SX.evStore, SX.spliceL, SX.SV.cells, SX.evConv, SX.evSlice, SX.bnd, SX.evNil, SX.evUn, SX.evPick, SX.pickOpd, SX.popTo, SX.cnd, SX.env0, SX.TD.isAgg, SX.TD.isIface, SX.tails, SX.NotAgg, SX.evLookup, SX.evConvH, SX.evPtrEq, SX.isCells, SX.thaw, SX.frz, SX.fixB, SX.rootIx, SX.Froz, SX.frzStep, SX.fork, Go.Value.cells, Go.undef, cfg10, nodeCells, hbs]
  refine ⟨by (unfold SX.Ob; first | trivial | omega | ((try simp only [SX.inK]); (try simp [SX.den, SX.IsU8, SX.AllP, *]); (try omega))), ?_⟩
  intro a7 w7 hr7' _
  have hr7 := h6.unbase hr7'
  have hb7 : Below w6.heap.size w6 w7 := by simpa [mutB] using hr7'.keeps.toBelow
  have hC7 := hC6.keep hb7
  have hB7 : Blk w7 db cap (G b) := by obtain ⟨u, hu⟩ := hB6; exact ⟨u, SO.rep_same hu (hb7.block _ hBl)⟩
  refine post_call 18 [.v (.slice (some ⟨db, 0, none⟩) 16 cap)] hr7 (wanted_none rfl) rfl (callable 18 Try.func18) (clone_ok w7 db cap (G b) hB7) ?_
  rintro e w8 ⟨b', cap', rfl, hb', hB8, hbel8⟩
  refine ⟨_, rfl, ?_⟩
  have hC8 := hC7.keep hbel8
  have h8 := hr7.ret hbel8 42 (.v (.slice (some ⟨b', 0, none⟩) 16 cap')) rfl [] trivial (by simp) rfl
  refine seg cfg10_ok mixed PanicFree.body 1000 [] [] h8.rebase (by first | trivial | exact HpRep.nil | assumption) (by kernel_rfl) fun s_ hs_ => ?_
  simp (maxSteps := 10000000) [SX.vc, SX.stop, SX.contS, SX.contB, SX.contW, SX.contR, SX.contD, SX.sxStep, SX.stepPure, SX.stepNew, SX.stepStore, SX.stepKeep, SX.guardIx, SX.evOp, SX.opd, SX.opds, SX.optOpd, SX.look, SX.putS, SX.gobs, SX.AllP, SX.leave, SX.lookC, SX.lookB, SX.lookT, SX.lookN, SX.findK, SX.evBuiltin, SX.ints, SX.foldI, SX.evBin, SX.evInt, SX.evStr, SX.evEq, SX.arith, SX.evLoad, SX.shapeUp, SX.evFieldAddr, SX.evField, SX.evIndexAddr, SX.evIndex, SX.evFill, SX.evBuild, SX.szs, SX.cellsV, SX.evNew, SX.evStore, SX.spliceL, SX.SV.cells, SX.evConv, SX.evSlice, SX.bnd, SX.evNil, SX.evUn, SX.evPick, SX.pickOpd, SX.popTo, SX.cnd, SX.env0, SX.TD.isAgg, SX.TD.isIface, SX.tails, SX.NotAgg, SX.evLookup, SX.evConvH, SX.evPtrEq, SX.isCells, SX.thaw, SX.frz, SX.fixB, SX.rootIx, SX.Froz, SX.frzStep, SX.fork, Go.Value.cells, Go.undef, cfg10]
  refine ⟨by (unfold SX.Ob; first | trivial | omega | ((try simp only [SX.inK]); (try simp [SX.den, SX.IsU8, SX.AllP, *]); (try omega))), ?_⟩
  intro a9 w9 hr9' _
  have hr9 := h8.unbase hr9'
  have hb9 : Below w8.heap.size w8 w9 := by simpa [mutB] using hr9'.keeps.toBelow
  have hsz : w.heap.size ≤ b' := Nat.le_trans hr7.keeps.size hb'
  exact post_retn (end2 hr9 rfl rfl rfl ⟨hr9.keeps, .inl ⟨b, b', cap', hf, hv, rfl, hsz, (by obtain ⟨u, hu⟩ := hB8; exact ⟨u, SO.rep_same hu (hb9.block _ (SO.rep_lt hu))⟩), hC8.keep hb9⟩⟩).1

theorem get_ok (w : World) (c : Nat) (h : Hd) (L : List Nat) (D : Nat → Ent) (G : Nat → Nat → Int) (hC : CRep w c h L D G) (lba ver : Int) (h1 : inK (h.hits + 1)) (h2 : inK (h.fails + 1)) :
    Calls Try.prog 10 (denL [.v (.pointer (some ⟨c, 0, none⟩)), .v (.int .i64 lba), .v (.int .i64 ver)]).toArray w (GetPost w c h L D G lba ver) := by
  cases hf : L.find? (fun b => (D b).lba == lba) with
  | none => exact get_none w c h L D G hC lba ver h2 hf
  | some b =>
    by_cases hv : (D b).ver = ver
    · exact get_hit w c h L D G hC lba ver h1 b hf hv
    · exact get_other w c h L D G hC lba ver h2 b hf hv
end Go.Proofs
