/- The ring in memory; what out and first do to it. -/
import Derived.Test.YtppgccbloaijoaaCT
import Derived.Test.YtppgccbloaijoaaCL
namespace Go.Proofs
set_option linter.unusedVariables false
set_option linter.unusedSimpArgs false
set_option linter.unusedSectionVars false
open Go Go.SX Go.RowKit Go.Ring

def npv (c : Nat) : Option Nat → Value
  | none => .pointer (some ⟨c, 2, none⟩)
  | some b => .pointer (some ⟨b, 0, none⟩)

structure Hd where
  most : Int
  mp : Nat
  hits : Int
  fails : Int

structure Ent where
  lba : Int
  ver : Int
  bs : Value

def headCells (h : Hd) (p n : SV) : List SV := [.v (.int .i64 h.most), .v (.map (some h.mp)), .v (.int .i64 0), .v (.int .i64 0), .v (.slice none 0 0), p, n, .v (.int .i64 h.hits), .v (.int .i64 h.fails)]
def headM (i : Nat) (h : Hd) (p n : SV) : List SV := [.v (.int .i64 h.most), .mp i h.mp, .v (.int .i64 0), .v (.int .i64 0), .v (.slice none 0 0), p, n, .v (.int .i64 h.hits), .v (.int .i64 h.fails)]
def nodeCells (e : Ent) (p n : SV) : List SV := [.v (.int .i64 e.lba), .v (.int .i64 e.ver), .v e.bs, p, n]

structure RingRep (w : World) (c : Nat) (h : Hd) (L : List Nat) (D : Nat → Ent) : Prop where
  nd : L.Nodup
  nc : c ∉ L
  head : (SO.cells (headCells h (.v (npv c L.getLast?)) (.v (npv c L.head?))) 59).rep w c
  node : ∀ b ∈ L, (SO.cells (nodeCells (D b) (.v (npv c (predL L b))) (.v (npv c (succL L b)))) 52).rep w b
  flat : ∀ b ∈ L, NotAgg (D b).bs

theorem rep_den {w : World} {b t : Nat} {l l' : List SV} (h : (SO.cells l t).rep w b) (e : denL l = denL l') : (SO.cells l' t).rep w b := by
  show w.heap[b]? = _
  rw [← e]; exact h

theorem ring_out {w w' : World} {c : Nat} {h : Hd} {L : List Nat} {D : Nat → Ent} (hR : RingRep w c h L D) {b : Nat} (hb : b ∈ L)
    (hh : (SO.cells (headCells h (.v (npv c (if succL L b = none then predL L b else L.getLast?))) (.v (npv c (if predL L b = none then succL L b else L.head?)))) 59).rep w' c)
    (hn : ∀ x ∈ L, x ≠ b → (SO.cells (nodeCells (D x) (.v (npv c (if succL L b = some x then predL L b else predL L x))) (.v (npv c (if predL L b = some x then succL L b else succL L x)))) 52).rep w' x) : RingRep w' c h (del L b) D := by
  have nd := hR.nd
  refine ⟨nodup_del nd b, fun hc => hR.nc (mem_del.1 hc).1, ?_, fun x hx => ?_, fun x hx => hR.flat x (mem_del.1 hx).1⟩
  · rw [head_del nd, last_del nd]
    simp only [succ_none nd hb, pred_none nd hb] at hh
    exact hh
  · obtain ⟨hx1, hxb⟩ := mem_del.1 hx
    rw [pred_del nd hxb, succ_del nd hxb]
    have := hn x hx1 hxb
    have e1 : (succL L b = some x) ↔ (predL L x = some b) := (pred_iff nd).symm
    have e2 : (predL L b = some x) ↔ (succL L x = some b) := pred_iff nd
    simp only [e1, e2] at this
    exact this

theorem same_of {w w' : World} {M : List Nat} (h : Keeps ⟨w, w.heap.size, M⟩ w') {b : Nat} {o : SO} (ho : o.rep w b) (hm : b ∉ M) : o.rep w' b := SO.rep_same ho (h.block b (SO.rep_lt ho) hm)

def OutPost (w : World) (c : Nat) (h : Hd) (L : List Nat) (D : Nat → Ent) (b : Nat) (e : Ending) (w' : World) : Prop :=
  e = .returned (.tuple #[]) ∧ KeepsTo w (c :: L) w' ∧ RingRep w' c h (del L b) D ∧ w'.heap[b]? = w.heap[b]?

set_option maxRecDepth 100000 in
set_option maxHeartbeats 4000000 in
theorem out_ok (w : World) (c : Nat) (h : Hd) (L : List Nat) (D : Nat → Ent) (hR : RingRep w c h L D) (b : Nat) (hb : b ∈ L) :
    Calls Try.prog 21 (denL [.v (npv c (some b))]).toArray w (OutPost w c h L D b) := by
  have nd := hR.nd
  have hbr := hR.node b hb
  have hcb : c ≠ b := fun e => hR.nc (e ▸ hb)
  have hflat := hR.flat b hb
  cases hp : predL L b with
  | none =>
    have hp' := (pred_none nd hb).1 hp
    cases hq : succL L b with
    | none =>
      have hq' := (succ_none nd hb).1 hq
      have hhr := hR.head
      rw [hp', hq'] at hhr
      rw [hp, hq] at hbr
      have hE : HpAll ⟨w, w.heap.size, [c]⟩ w [(b, false, .cells (nodeCells (D b) (.ptr 1 c 2) (.ptr 1 c 2)) 52), (c, true, .cells (headCells h (.ptr 0 b 0) (.ptr 0 b 0)) 59)] := ⟨⟨rep_den hbr rfl, by simp, by simpa using hcb.symm⟩, ⟨rep_den hhr rfl, by simp, by simp⟩, trivial⟩
      refine enter (F := ⟨w, w.heap.size, [c]⟩) Try.func21 rfl [.ptr 0 b 0] _ (by simp [Try.f21]) hE ⟨Nat.le_refl _, rfl, rfl, rfl, Nat.le_refl _, fun _ _ _ => rfl⟩ fun a hr => ?_
      refine seg cfg21_ok mixed PanicFree.body 1000 [] [] hr (by first | trivial | exact HpRep.nil | assumption) (by kernel_rfl) fun s_ hs_ => ?_
      simp (maxSteps := 10000000) [SX.vc, SX.stop, SX.contS, SX.contB, SX.contW, SX.contR, SX.contD, SX.sxStep, SX.stepPure, SX.stepNew, SX.stepStore, SX.stepKeep, SX.guardIx, SX.evOp, SX.opd, SX.opds, SX.optOpd, SX.look, SX.putS, SX.gobs, SX.AllP, SX.leave, SX.lookC, SX.lookB, SX.lookT, SX.lookN, SX.findK, SX.evBuiltin, SX.ints, SX.foldI, SX.evBin, SX.evInt, SX.evStr, SX.evEq, SX.arith, SX.evLoad, SX.shapeUp, SX.evFieldAddr, SX.evField, SX.evIndexAddr, SX.evIndex, SX.evFill, SX.evBuild, SX.szs, SX.cellsV, SX.evNew, SX.evStore, SX.spliceL, SX.SV.cells, SX.evConv, SX.evSlice, SX.bnd, SX.evNil, SX.evUn, SX.evPick, SX.pickOpd, SX.popTo, SX.cnd, SX.env0, SX.TD.isAgg, SX.TD.isIface, SX.tails, SX.NotAgg, SX.evLookup, SX.evConvH, SX.evPtrEq, SX.isCells, SX.thaw, SX.frz, SX.fixB, SX.rootIx, SX.Froz, SX.frzStep, SX.fork, Go.Value.cells, Go.undef, cfg21, Try.f21, nodeCells, headCells]
      refine ⟨by (unfold SX.Ob; first | trivial | omega | ((try simp only [SX.inK]); (try simp [SX.den, SX.IsU8, SX.AllP, *]); (try omega))), ?_⟩
      intro a1 w1 hr1 _
      have hA := hr1.all
      refine post_nil (end0 hr1 rfl ⟨rfl, KeepsTo.of hr1.keeps (by simp), ring_out hR hb ?_ fun x hx hxb => ?_, hr1.keeps.block b (SO.rep_lt hbr) (by simpa using hcb.symm)⟩).2
      · simp only [hp, hq, if_true]
        exact rep_den hA.2.1.1 rfl
      · simp only [hp, hq, reduceCtorEq, if_false]
        exact same_of hr1.keeps (hR.node x hx) (by simp; rintro rfl; exact hR.nc hx)
    | some q =>
      have hqm := succ_mem hq
      have hqb := succ_ne nd hq
      have hqr := hR.node q hqm
      have hfq := hR.flat q hqm
      rw [(pred_iff nd).2 hq] at hqr
      have hcq : c ≠ q := fun e => hR.nc (e ▸ hqm)
      have hhr := hR.head
      rw [hp'] at hhr
      rw [hp, hq] at hbr
      have hE : HpAll ⟨w, w.heap.size, [c, q]⟩ w [(b, false, .cells (nodeCells (D b) (.ptr 1 c 2) (.ptr 2 q 0)) 52), (c, true, .cells (headCells h (.v (npv c L.getLast?)) (.ptr 0 b 0)) 59), (q, true, .cells (nodeCells (D q) (.ptr 0 b 0) (.v (npv c (succL L q)))) 52)] := ⟨⟨rep_den hbr rfl, by simp, by simp [hcb.symm, hqb]⟩, ⟨rep_den hhr rfl, by simp, by simpa using hcq⟩, ⟨rep_den hqr rfl, by simp, by simp⟩, trivial⟩
      refine enter (F := ⟨w, w.heap.size, [c, q]⟩) Try.func21 rfl [.ptr 0 b 0] _ (by simp [Try.f21]) hE ⟨Nat.le_refl _, rfl, rfl, rfl, Nat.le_refl _, fun _ _ _ => rfl⟩ fun a hr => ?_
      refine seg cfg21_ok mixed PanicFree.body 1000 [] [] hr (by first | trivial | exact HpRep.nil | assumption) (by kernel_rfl) fun s_ hs_ => ?_
      simp (maxSteps := 10000000) [SX.vc, SX.stop, SX.contS, SX.contB, SX.contW, SX.contR, SX.contD, SX.sxStep, SX.stepPure, SX.stepNew, SX.stepStore, SX.stepKeep, SX.guardIx, SX.evOp, SX.opd, SX.opds, SX.optOpd, SX.look, SX.putS, SX.gobs, SX.AllP, SX.leave, SX.lookC, SX.lookB, SX.lookT, SX.lookN, SX.findK, SX.evBuiltin, SX.ints, SX.foldI, SX.evBin, SX.evInt, SX.evStr, SX.evEq, SX.arith, SX.evLoad, SX.shapeUp, SX.evFieldAddr, SX.evField, SX.evIndexAddr, SX.evIndex, SX.evFill, SX.evBuild, SX.szs, SX.cellsV, SX.evNew, SX.evStore, SX.spliceL, SX.SV.cells, SX.evConv, SX.evSlice, SX.bnd, SX.evNil, SX.evUn, SX.evPick, SX.pickOpd, SX.popTo, SX.cnd, SX.env0, SX.TD.isAgg, SX.TD.isIface, SX.tails, SX.NotAgg, SX.evLookup, SX.evConvH, SX.evPtrEq, SX.isCells, SX.thaw, SX.frz, SX.fixB, SX.rootIx, SX.Froz, SX.frzStep, SX.fork, Go.Value.cells, Go.undef, cfg21, Try.f21, nodeCells, headCells]
      refine ⟨by (unfold SX.Ob; first | trivial | omega | ((try simp only [SX.inK]); (try simp [SX.den, SX.IsU8, SX.AllP, *]); (try omega))), ?_⟩
      intro a1 w1 hr1 _
      have hA := hr1.all
      refine post_nil (end0 hr1 rfl ⟨rfl, KeepsTo.of hr1.keeps (by simp [hqm]), ring_out hR hb ?_ fun x hx hxb => ?_, hr1.keeps.block b (SO.rep_lt hbr) (by simp [hcb.symm, hqb])⟩).2
      · simp only [hp, hq, if_true, reduceCtorEq, if_false]
        exact rep_den hA.2.1.1 rfl
      · by_cases hxq : x = q
        · subst hxq
          simp only [hp, hq, if_true, reduceCtorEq, if_false]
          exact rep_den hA.2.2.1.1 rfl
        · simp only [hp, hq, reduceCtorEq, if_false, Option.some.injEq, Ne.symm hxq]
          exact same_of hr1.keeps (hR.node x hx) (by simp [hxq]; rintro rfl; exact hR.nc hx)
  | some p =>
    have hpm := pred_mem hp
    have hpb := succ_ne nd ((pred_iff nd).1 hp)
    have hpr := hR.node p hpm
    have hfp := hR.flat p hpm
    rw [(pred_iff nd).1 hp] at hpr
    have hcp : c ≠ p := fun e => hR.nc (e ▸ hpm)
    cases hq : succL L b with
    | none =>
      have hq' := (succ_none nd hb).1 hq
      have hhr := hR.head
      rw [hq'] at hhr
      rw [hp, hq] at hbr
      have hE : HpAll ⟨w, w.heap.size, [p, c]⟩ w [(b, false, .cells (nodeCells (D b) (.ptr 1 p 0) (.ptr 2 c 2)) 52), (p, true, .cells (nodeCells (D p) (.v (npv c (predL L p))) (.ptr 0 b 0)) 52), (c, true, .cells (headCells h (.ptr 0 b 0) (.v (npv c L.head?))) 59)] := ⟨⟨rep_den hbr rfl, by simp, by simp [hcb.symm, hpb.symm]⟩, ⟨rep_den hpr rfl, by simp, by simpa using hcp.symm⟩, ⟨rep_den hhr rfl, by simp, by simp⟩, trivial⟩
      refine enter (F := ⟨w, w.heap.size, [p, c]⟩) Try.func21 rfl [.ptr 0 b 0] _ (by simp [Try.f21]) hE ⟨Nat.le_refl _, rfl, rfl, rfl, Nat.le_refl _, fun _ _ _ => rfl⟩ fun a hr => ?_
      refine seg cfg21_ok mixed PanicFree.body 1000 [] [] hr (by first | trivial | exact HpRep.nil | assumption) (by kernel_rfl) fun s_ hs_ => ?_
      simp (maxSteps := 10000000) [SX.vc, SX.stop, SX.contS, SX.contB, SX.contW, SX.contR, SX.contD, SX.sxStep, SX.stepPure, SX.stepNew, SX.stepStore, SX.stepKeep, SX.guardIx, SX.evOp, SX.opd, SX.opds, SX.optOpd, SX.look, SX.putS, SX.gobs, SX.AllP, SX.leave, SX.lookC, SX.lookB, SX.lookT, SX.lookN, SX.findK, SX.evBuiltin, SX.ints, SX.foldI, SX.evBin, SX.evInt, SX.evStr, SX.evEq, SX.arith, SX.evLoad, SX.shapeUp, SX.evFieldAddr, SX.evField, SX.evIndexAddr, SX.evIndex, SX.evFill, SX.evBuild, SX.szs, SX.cellsV, SX.evNew, SX.evStore, SX.spliceL, SX.SV.cells, SX.evConv, SX.evSlice, SX.bnd, SX.evNil, SX.evUn, SX.evPick, SX.pickOpd, SX.popTo, SX.cnd, SX.env0, SX.TD.isAgg, SX.TD.isIface, SX.tails, SX.NotAgg, SX.evLookup, SX.evConvH, SX.evPtrEq, SX.isCells, SX.thaw, SX.frz, SX.fixB, SX.rootIx, SX.Froz, SX.frzStep, SX.fork, Go.Value.cells, Go.undef, cfg21, Try.f21, nodeCells, headCells]
      refine ⟨by (unfold SX.Ob; first | trivial | omega | ((try simp only [SX.inK]); (try simp [SX.den, SX.IsU8, SX.AllP, *]); (try omega))), ?_⟩
      intro a1 w1 hr1 _
      have hA := hr1.all
      refine post_nil (end0 hr1 rfl ⟨rfl, KeepsTo.of hr1.keeps (by simp [hpm]), ring_out hR hb ?_ fun x hx hxb => ?_, hr1.keeps.block b (SO.rep_lt hbr) (by simp [hcb.symm, hpb.symm])⟩).2
      · simp only [hp, hq, if_true, reduceCtorEq, if_false]
        exact rep_den hA.2.2.1.1 rfl
      · by_cases hxp : x = p
        · subst hxp
          simp only [hp, hq, if_true, reduceCtorEq, if_false]
          exact rep_den hA.2.1.1 rfl
        · simp only [hp, hq, reduceCtorEq, if_false, Option.some.injEq, Ne.symm hxp]
          exact same_of hr1.keeps (hR.node x hx) (by simp [hxp]; rintro rfl; exact hR.nc hx)
    | some q =>
      have hqm := succ_mem hq
      have hqb := succ_ne nd hq
      have hqr := hR.node q hqm
      have hfq := hR.flat q hqm
      have hpq := pred_succ_ne nd hp hq
      rw [(pred_iff nd).2 hq] at hqr
      have hcq : c ≠ q := fun e => hR.nc (e ▸ hqm)
      rw [hp, hq] at hbr
      have hE : HpAll ⟨w, w.heap.size, [p, q]⟩ w [(b, false, .cells (nodeCells (D b) (.ptr 1 p 0) (.ptr 2 q 0)) 52), (p, true, .cells (nodeCells (D p) (.v (npv c (predL L p))) (.ptr 0 b 0)) 52), (q, true, .cells (nodeCells (D q) (.ptr 0 b 0) (.v (npv c (succL L q)))) 52)] := ⟨⟨rep_den hbr rfl, by simp, by simp [hqb, hpb.symm]⟩, ⟨rep_den hpr rfl, by simp, by simpa using hpq⟩, ⟨rep_den hqr rfl, by simp, by simp⟩, trivial⟩
      refine enter (F := ⟨w, w.heap.size, [p, q]⟩) Try.func21 rfl [.ptr 0 b 0] _ (by simp [Try.f21]) hE ⟨Nat.le_refl _, rfl, rfl, rfl, Nat.le_refl _, fun _ _ _ => rfl⟩ fun a hr => ?_
      refine seg cfg21_ok mixed PanicFree.body 1000 [] [] hr (by first | trivial | exact HpRep.nil | assumption) (by kernel_rfl) fun s_ hs_ => ?_
      simp (maxSteps := 10000000) [SX.vc, SX.stop, SX.contS, SX.contB, SX.contW, SX.contR, SX.contD, SX.sxStep, SX.stepPure, SX.stepNew, SX.stepStore, SX.stepKeep, SX.guardIx, SX.evOp, SX.opd, SX.opds, SX.optOpd, SX.look, SX.putS, SX.gobs, SX.AllP, SX.leave, SX.lookC, SX.lookB, SX.lookT, SX.lookN, SX.findK, SX.evBuiltin, SX.ints, SX.foldI, SX.evBin, SX.evInt, SX.evStr, SX.evEq, SX.arith, SX.evLoad, SX.shapeUp, SX.evFieldAddr, SX.evField, SX.evIndexAddr, SX.evIndex, SX.evFill, SX.evBuild, SX.szs, SX.cellsV, SX.evNew, SX.evStore, SX.spliceL, SX.SV.cells, SX.evConv, SX.evSlice, SX.bnd, SX.evNil, SX.evUn, SX.evPick, SX.pickOpd, SX.popTo, SX.cnd, SX.env0, SX.TD.isAgg, SX.TD.isIface, SX.tails, SX.NotAgg, SX.evLookup, SX.evConvH, SX.evPtrEq, SX.isCells, SX.thaw, SX.frz, SX.fixB, SX.rootIx, SX.Froz, SX.frzStep, SX.fork, Go.Value.cells, Go.undef, cfg21, Try.f21, nodeCells, headCells]
      refine ⟨by (unfold SX.Ob; first | trivial | omega | ((try simp only [SX.inK]); (try simp [SX.den, SX.IsU8, SX.AllP, *]); (try omega))), ?_⟩
      intro a1 w1 hr1 _
      have hA := hr1.all
      refine post_nil (end0 hr1 rfl ⟨rfl, KeepsTo.of hr1.keeps (by simp [hpm, hqm]), ring_out hR hb ?_ fun x hx hxb => ?_, hr1.keeps.block b (SO.rep_lt hbr) (by simp [hqb, hpb.symm])⟩).2
      · simp only [hp, hq, reduceCtorEq, if_false]
        exact same_of hr1.keeps hR.head (by simp [hcp, hcq])
      · by_cases hxp : x = p
        · subst hxp
          simp only [hp, hq, if_true, Option.some.injEq, hpq.symm, if_false]
          exact rep_den hA.2.1.1 rfl
        · by_cases hxq : x = q
          · subst hxq
            simp only [hp, hq, if_true, Option.some.injEq, Ne.symm hxp, if_false]
            exact rep_den hA.2.2.1.1 rfl
          · simp only [hp, hq, if_false, Option.some.injEq, Ne.symm hxp, Ne.symm hxq]
            exact same_of hr1.keeps (hR.node x hx) (by simp [hxp, hxq])

theorem ring_first {w w' : World} {c : Nat} {h : Hd} {L : List Nat} {D : Nat → Ent} (hR : RingRep w c h L D) {b : Nat} (hb : b ∉ L) (hbc : b ≠ c) (hfl : NotAgg (D b).bs)
    (hh : (SO.cells (headCells h (.v (npv c (if L.head? = none then some b else L.getLast?))) (.v (npv c (some b)))) 59).rep w' c)
    (h0 : (SO.cells (nodeCells (D b) (.v (npv c none)) (.v (npv c L.head?))) 52).rep w' b)
    (hn : ∀ x ∈ L, (SO.cells (nodeCells (D x) (.v (npv c (if L.head? = some x then some b else predL L x))) (.v (npv c (succL L x)))) 52).rep w' x) : RingRep w' c h (b :: L) D := by
  have nd := hR.nd
  refine ⟨List.nodup_cons.2 ⟨hb, nd⟩, by simpa using ⟨hbc.symm, hR.nc⟩, ?_, fun x hx => ?_, fun x hx => ?_⟩
  · have e : (b :: L).getLast? = if L.head? = none then some b else L.getLast? := by
      cases L with
      | nil => rfl
      | cons z r => rw [List.getLast?_cons_cons]; simp
    rw [e]; exact hh
  · rcases List.mem_cons.1 hx with rfl | hx
    · rw [pred_cons_self hb]
      have : succL (x :: L) x = L.head? := by simp [succL]
      rw [this]; exact h0
    · have hxb : b ≠ x := fun e => hb (e ▸ hx)
      rw [pred_cons nd hx, succ_cons, if_neg hxb]
      exact hn x hx
  · rcases List.mem_cons.1 hx with rfl | hx
    · exact hfl
    · exact hR.flat x hx

def FirstPost (w : World) (c : Nat) (h : Hd) (L : List Nat) (D : Nat → Ent) (b : Nat) (e : Ending) (w' : World) : Prop :=
  e = .returned (.tuple #[]) ∧ KeepsTo w (b :: c :: L) w' ∧ RingRep w' c h (b :: L) D

set_option maxRecDepth 100000 in
set_option maxHeartbeats 4000000 in
theorem first_ok (w : World) (c : Nat) (h : Hd) (L : List Nat) (D : Nat → Ent) (hR : RingRep w c h L D) (b : Nat) (hb : b ∉ L) (hbc : b ≠ c) (hfl : NotAgg (D b).bs) (p0 n0 : SV) (hbr : (SO.cells (nodeCells (D b) p0 n0) 52).rep w b)
    (hp0 : NotAgg (den p0)) (hn0 : NotAgg (den n0)) : Calls Try.prog 19 (denL [.v (.pointer (some ⟨c, 0, none⟩)), .v (npv c (some b))]).toArray w (FirstPost w c h L D b) := by
  have nd := hR.nd
  cases hf : L.head? with
  | none =>
    obtain rfl : L = [] := List.head?_eq_none_iff.1 hf
    have hhr := hR.head
    have hE : HpAll ⟨w, w.heap.size, [b, c]⟩ w [(b, true, .cells (nodeCells (D b) p0 n0) 52), (c, true, .cells (headCells h (.ptr 1 c 2) (.ptr 1 c 2)) 59)] :=
      ⟨⟨hbr, by simp, by simpa using hbc⟩, ⟨rep_den hhr rfl, by simp, by simp⟩, trivial⟩
    refine enter (F := ⟨w, w.heap.size, [b, c]⟩) Try.func19 rfl [.ptr 1 c 0, .ptr 0 b 0] _ (by simp [Try.f19]) hE ⟨Nat.le_refl _, rfl, rfl, rfl, Nat.le_refl _, fun _ _ _ => rfl⟩ fun a hr => ?_
    refine seg cfg19_ok mixed PanicFree.body 1000 [] [] hr (by first | trivial | exact HpRep.nil | assumption) (by kernel_rfl) fun s_ hs_ => ?_
    simp (maxSteps := 10000000) [SX.vc, SX.stop, SX.contS, SX.contB, SX.contW, SX.contR, SX.contD, SX.sxStep, SX.stepPure, SX.stepNew, SX.stepStore, SX.stepKeep, SX.guardIx, SX.evOp, SX.opd, SX.opds, SX.optOpd, SX.look, SX.putS, SX.gobs, SX.AllP, SX.leave, SX.lookC, SX.lookB, SX.lookT, SX.lookN, SX.findK, SX.evBuiltin, SX.ints, SX.foldI, SX.evBin, SX.evInt, SX.evStr, SX.evEq, SX.arith, SX.evLoad, SX.shapeUp, SX.evFieldAddr, SX.evField, SX.evIndexAddr, SX.evIndex, SX.evFill, SX.evBuild, SX.szs, SX.cellsV, SX.evNew, SX.evStore, SX.spliceL, SX.SV.cells, SX.evConv, SX.evSlice, SX.bnd, SX.evNil, SX.evUn, SX.evPick, SX.pickOpd, SX.popTo, SX.cnd, SX.env0, SX.TD.isAgg, SX.TD.isIface, SX.tails, SX.NotAgg, SX.evLookup, SX.evConvH, SX.evPtrEq, SX.isCells, SX.thaw, SX.frz, SX.fixB, SX.rootIx, SX.Froz, SX.frzStep, SX.fork, Go.Value.cells, Go.undef, cfg19, Try.f19, nodeCells, headCells]
    refine ⟨by (unfold SX.Ob; first | trivial | omega | ((try simp only [SX.inK]); (try simp [SX.den, SX.IsU8, SX.AllP, *]); (try omega))), ?_⟩
    intro a1 w1 hr1 _
    have hA := hr1.all
    exact post_nil (end0 hr1 rfl ⟨rfl, KeepsTo.of hr1.keeps (by simp), ring_first hR hb hbc hfl (rep_den hA.2.1.1 rfl) (rep_den hA.1.1 rfl) fun x hx => by cases hx⟩).2
  | some f =>
    have hfm := List.mem_of_head? hf
    have hfr := hR.node f hfm
    have hff := hR.flat f hfm
    have hbf : b ≠ f := fun e => hb (e ▸ hfm)
    have hcf : c ≠ f := fun e => hR.nc (e ▸ hfm)
    have hhr := hR.head
    rw [hf] at hhr
    rw [(pred_none nd hfm).2 hf] at hfr
    have hE : HpAll ⟨w, w.heap.size, [b, c, f]⟩ w [(b, true, .cells (nodeCells (D b) p0 n0) 52), (c, true, .cells (headCells h (.v (npv c L.getLast?)) (.ptr 2 f 0)) 59), (f, true, .cells (nodeCells (D f) (.ptr 1 c 2) (.v (npv c (succL L f)))) 52)] :=
      ⟨⟨hbr, by simp, by simp [hbc, hbf]⟩, ⟨rep_den hhr rfl, by simp, by simpa using hcf⟩, ⟨rep_den hfr rfl, by simp, by simp⟩, trivial⟩
    refine enter (F := ⟨w, w.heap.size, [b, c, f]⟩) Try.func19 rfl [.ptr 1 c 0, .ptr 0 b 0] _ (by simp [Try.f19]) hE ⟨Nat.le_refl _, rfl, rfl, rfl, Nat.le_refl _, fun _ _ _ => rfl⟩ fun a hr => ?_
    refine seg cfg19_ok mixed PanicFree.body 1000 [] [] hr (by first | trivial | exact HpRep.nil | assumption) (by kernel_rfl) fun s_ hs_ => ?_
    simp (maxSteps := 10000000) [SX.vc, SX.stop, SX.contS, SX.contB, SX.contW, SX.contR, SX.contD, SX.sxStep, SX.stepPure, SX.stepNew, SX.stepStore, SX.stepKeep, SX.guardIx, SX.evOp, SX.opd, SX.opds, SX.optOpd, SX.look, SX.putS, SX.gobs, SX.AllP, SX.leave, SX.lookC, SX.lookB, SX.lookT, SX.lookN, SX.findK, SX.evBuiltin, SX.ints, SX.foldI, SX.evBin, SX.evInt, SX.evStr, SX.evEq, SX.arith, SX.evLoad, SX.shapeUp, SX.evFieldAddr, SX.evField, SX.evIndexAddr, SX.evIndex, SX.evFill, SX.evBuild, SX.szs, SX.cellsV, SX.evNew, SX.evStore, SX.spliceL, SX.SV.cells, SX.evConv, SX.evSlice, SX.bnd, SX.evNil, SX.evUn, SX.evPick, SX.pickOpd, SX.popTo, SX.cnd, SX.env0, SX.TD.isAgg, SX.TD.isIface, SX.tails, SX.NotAgg, SX.evLookup, SX.evConvH, SX.evPtrEq, SX.isCells, SX.thaw, SX.frz, SX.fixB, SX.rootIx, SX.Froz, SX.frzStep, SX.fork, Go.Value.cells, Go.undef, cfg19, Try.f19, nodeCells, headCells]
    refine ⟨by (unfold SX.Ob; first | trivial | omega | ((try simp only [SX.inK]); (try simp [SX.den, SX.IsU8, SX.AllP, *]); (try omega))), ?_⟩
    intro a1 w1 hr1 _
    have hA := hr1.all
    refine post_nil (end0 hr1 rfl ⟨rfl, KeepsTo.of hr1.keeps (by simp [hfm]), ring_first hR hb hbc hfl ?_ ?_ fun x hx => ?_⟩).2
    · simp only [hf, reduceCtorEq, if_false]
      exact rep_den hA.2.1.1 rfl
    · rw [hf]; exact rep_den hA.1.1 rfl
    · by_cases hxf : x = f
      · subst hxf
        simp only [hf, if_true]
        exact rep_den hA.2.2.1.1 rfl
      · simp only [hf, Option.some.injEq, Ne.symm hxf, if_false]
        exact same_of hr1.keeps (hR.node x hx) (by simp [hxf]; exact ⟨fun e => hb (e ▸ hx), fun e => hR.nc (e ▸ hx)⟩)
end Go.Proofs
