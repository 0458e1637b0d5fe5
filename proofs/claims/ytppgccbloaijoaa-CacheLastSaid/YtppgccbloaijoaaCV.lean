/- The cache: Drop. -/
import Derived.Test.YtppgccbloaijoaaCS
namespace Go.Proofs
set_option linter.unusedVariables false
set_option linter.unusedSimpArgs false
set_option linter.unusedSectionVars false
open Go Go.SX Go.RowKit Go.Ring

def goesB (lba n : Int) (x : Int) : Bool := decide (lba ≤ x) && decide (x - lba < n)
def restK (lba n : Int) (L : List Nat) (D : Nat → Ent) (k : Nat) : List Nat := ((L.take k).filter fun b => !goesB lba n (D b).lba) ++ L.drop k
def goneK (lba n : Int) (L : List Nat) (D : Nat → Ent) (k : Nat) : Int := (((L.take k).filter fun b => goesB lba n (D b).lba).length : Int)

theorem restK_zero {lba n : Int} {L : List Nat} {D : Nat → Ent} : restK lba n L D 0 = L := by simp [restK]
theorem restK_all {lba n : Int} {L : List Nat} {D : Nat → Ent} : restK lba n L D L.length = L.filter fun b => !goesB lba n (D b).lba := by simp [restK]

theorem restK_mem {lba n : Int} {L : List Nat} {D : Nat → Ent} {k x : Nat} (h : x ∈ restK lba n L D k) : x ∈ L := by
  rcases List.mem_append.1 h with h | h
  · exact List.mem_of_mem_take (List.mem_filter.1 h).1
  · exact List.mem_of_mem_drop h

theorem take_succ' {L : List Nat} {k z : Nat} (hz : L[k]? = some z) : L.take (k + 1) = L.take k ++ [z] := by rw [List.take_add_one, hz]; rfl
theorem drop_eq' {L : List Nat} {k z : Nat} (hz : L[k]? = some z) : L.drop k = z :: L.drop (k + 1) := by
  obtain ⟨h1, h2⟩ := List.getElem?_eq_some_iff.1 hz
  rw [List.drop_eq_getElem_cons h1, h2]

theorem restK_keep {lba n : Int} {L : List Nat} {D : Nat → Ent} {k z : Nat} (hz : L[k]? = some z) (hg : goesB lba n (D z).lba = false) : restK lba n L D (k + 1) = restK lba n L D k := by
  simp [restK, take_succ' hz, drop_eq' hz, List.filter_append, hg]

theorem restK_gone {lba n : Int} {L : List Nat} {D : Nat → Ent} (nd : L.Nodup) {k z : Nat} (hz : L[k]? = some z) (hg : goesB lba n (D z).lba = true) : restK lba n L D (k + 1) = del (restK lba n L D k) z := by
  have h0 := List.take_append_drop k L
  rw [drop_eq' hz] at h0
  rw [← h0] at nd
  have h1 := List.nodup_append.1 nd
  have h2 : z ∉ L.take k := fun h => h1.2.2 z h z (by simp) rfl
  have h3 : z ∉ L.drop (k + 1) := (List.nodup_cons.1 h1.2.1).1
  have e : restK lba n L D k = ((L.take k).filter fun b => !goesB lba n (D b).lba) ++ z :: L.drop (k + 1) := by rw [← drop_eq' hz]; rfl
  have e2 : restK lba n L D (k + 1) = ((L.take k).filter fun b => !goesB lba n (D b).lba) ++ L.drop (k + 1) := by
    simp [restK, take_succ' hz, List.filter_append, hg]
  have h4 : z ∉ (L.take k).filter fun b => !goesB lba n (D b).lba := fun h => h2 (List.mem_filter.1 h).1
  rw [e, e2]
  unfold del
  rw [List.filter_append, List.filter_cons]
  simp only [ne_eq, not_true_eq_false, decide_false, Bool.false_eq_true, if_false]
  have f1 := filter_self h4
  have f2 := filter_self h3
  unfold del at f1 f2
  rw [f1, f2]

theorem restK_at {lba n : Int} {L : List Nat} {D : Nat → Ent} {k z : Nat} (hz : L[k]? = some z) : z ∈ restK lba n L D k := by
  simp [restK, drop_eq' hz]

theorem goneK_succ {lba n : Int} {L : List Nat} {D : Nat → Ent} {k z : Nat} (hz : L[k]? = some z) : goneK lba n L D (k + 1) = goneK lba n L D k + if goesB lba n (D z).lba then 1 else 0 := by
  simp only [goneK, take_succ' hz, List.filter_append, List.length_append, List.filter_cons, List.filter_nil]
  split <;> simp

theorem goneK_le {lba n : Int} {L : List Nat} {D : Nat → Ent} {k : Nat} : 0 ≤ goneK lba n L D k ∧ goneK lba n L D k ≤ L.length := by
  refine ⟨by simp [goneK], ?_⟩
  unfold goneK
  have := List.length_filter_le (fun b => goesB lba n (D b).lba) (L.take k)
  have := List.length_take_le k L
  have h3 : (L.take k).length ≤ L.length := by simp; omega
  omega

def DropNil (w : World) (c : Nat) (h : Hd) (L : List Nat) (D : Nat → Ent) (G : Nat → Nat → Int) (m : Nat) (a : Act) (w' : World) : Prop :=
  m = 0 ∧ CRep w' c h L D G ∧ RepX ⟨w, w.heap.size, h.mp :: c :: L⟩ ⟨[(13, 0, .v (.int .i64 0)), (12, 0, .v (.int .i64 0)), (7, 0, .v (.int .i64 0))], [], 0, 0, 40, [], [], []⟩ a w'

def DropLoop (w : World) (c : Nat) (h : Hd) (L : List Nat) (D : Nat → Ent) (G : Nat → Nat → Int) (lba n : Int) (b cap N : Nat) (row : Nat → List SV) (u : TypeId) (m : Nat) (a : Act) (w' : World) : Prop :=
  ∃ k, m = L.length - k ∧ k ≤ L.length ∧ CRep w' c h (restK lba n L D k) D G ∧
    RepX ⟨w, w.heap.size, h.mp :: c :: L⟩ ⟨[(13, 0, .v (.int .i64 k)), (12, 0, .v (.int .i64 L.length)), (11, 0, .sl 0 b 0 0 L.length cap 1), (7, 0, .v (.int .i64 (goneK lba n L D k))), (2, 0, .v (.int .i64 n)), (1, 0, .v (.int .i64 lba)), (0, 0, .v (.pointer (some ⟨c, 0, none⟩)))], [(b, false, .arr 0 N row 1 u (0, 0))], 0, 0, 40, [], [], []⟩ a w'

def DropPost (w : World) (c : Nat) (h : Hd) (L : List Nat) (D : Nat → Ent) (G : Nat → Nat → Int) (lba n : Int) (e : Ending) (w' : World) : Prop :=
  e = .returned (.int .i64 (goneK lba n L D L.length)) ∧ KeepsTo w (h.mp :: c :: L) w' ∧ CRep w' c h (restK lba n L D L.length) D G

set_option maxRecDepth 100000 in
set_option maxHeartbeats 8000000 in
theorem dropAll_ok (w : World) (c : Nat) (h : Hd) (L : List Nat) (D : Nat → Ent) (G : Nat → Nat → Int) (hC : CRep w c h L D G) (lba n : Int) (hl : 0 ≤ lba) (hin : ∀ b ∈ L, 0 ≤ (D b).lba ∧ (D b).lba ≤ 9223372036854775807) (hlen : L.length ≤ 1000000) :
    Calls Try.prog 15 (denL [.v (.pointer (some ⟨c, 0, none⟩)), .v (.int .i64 lba), .v (.int .i64 n)]).toArray w (DropPost w c h L D G lba n) := by
  refine enter (F := ⟨w, w.heap.size, h.mp :: c :: L⟩) Try.func15 rfl [.v (.pointer (some ⟨c, 0, none⟩)), .v (.int .i64 lba), .v (.int .i64 n)] [] (by simp [Try.f15]) trivial (KeepsTo.refl w _) fun a hr => ?_
  refine seg cfg15_ok mixed PanicFree.body 1000 [] [] hr.rebase (by first | trivial | exact HpRep.nil | assumption) (by kernel_rfl) fun s_ hs_ => ?_
  simp (maxSteps := 10000000) [SX.vc, SX.stop, SX.contS, SX.contB, SX.contW, SX.contR, SX.contD, SX.sxStep, SX.stepPure, SX.stepNew, SX.stepStore, SX.stepKeep, SX.guardIx, SX.evOp, SX.opd, SX.opds, SX.optOpd, SX.look, SX.putS, SX.gobs, SX.AllP, SX.leave, SX.lookC, SX.lookB, SX.lookT, SX.lookN, SX.findK, SX.evBuiltin, SX.ints, SX.foldI, SX.evBin, SX.evInt, SX.evStr, SX.evEq, SX.arith, SX.evLoad, SX.shapeUp, SX.evFieldAddr, SX.evField, SX.evIndexAddr, SX.evIndex, SX.evFill, SX.evBuild, SX.szs, SX.cellsV, SX.evNew, SX.evStore, SX.spliceL, SX.SV.cells, SX.evConv, SX.evSlice, SX.bnd, SX.evNil, SX.evUn, SX.evPick, SX.pickOpd, SX.popTo, SX.cnd, SX.env0, SX.TD.isAgg, SX.TD.isIface, SX.tails, SX.NotAgg, SX.evLookup, SX.evConvH, SX.evPtrEq, SX.isCells, SX.thaw, SX.frz, SX.fixB, SX.rootIx, SX.Froz, SX.frzStep, SX.fork, Go.Value.cells, Go.undef, cfg15, Try.f15]
  refine ⟨by (unfold SX.Ob; first | trivial | omega | ((try simp only [SX.inK]); (try simp [SX.den, SX.IsU8, SX.AllP, *]); (try omega))), ?_⟩
  intro a1 w1 hr1' _
  have hr1 := hr.unbase hr1'
  have hC1 : CRep w1 c h L D G := hC.keep (by simpa [mutB] using hr1'.keeps.toBelow)
  refine post_call 23 [.v (.pointer (some ⟨c, 0, none⟩))] hr1 (wanted_none rfl) rfl (callable 23 Try.func23) (all_ok w1 c h L D hC1.ring hlen) ?_
  rintro e w2 ⟨x, H, hx, rfl, hH, hb2⟩
  refine ⟨_, rfl, ?_⟩
  have hC2 := hC1.keep hb2
  rcases hx with ⟨hL0, rfl, rfl⟩ | ⟨b, cap, N, row, u, hk0, hB, rfl, rfl, hc1, hc2, hrow⟩
  · have h2 := hr1.ret hb2 11 (.v (.slice none 0 0)) rfl [] trivial (by simp) rfl
    refine seg cfg15_ok mixed PanicFree.body 1000 [] [] h2.rebase (by first | trivial | exact HpRep.nil | assumption) (by kernel_rfl) fun s_ hs_ => ?_
    simp (maxSteps := 10000000) [SX.vc, SX.stop, SX.contS, SX.contB, SX.contW, SX.contR, SX.contD, SX.sxStep, SX.stepPure, SX.stepNew, SX.stepStore, SX.stepKeep, SX.guardIx, SX.evOp, SX.opd, SX.opds, SX.optOpd, SX.look, SX.putS, SX.gobs, SX.AllP, SX.leave, SX.lookC, SX.lookB, SX.lookT, SX.lookN, SX.findK, SX.evBuiltin, SX.ints, SX.foldI, SX.evBin, SX.evInt, SX.evStr, SX.evEq, SX.arith, SX.evLoad, SX.shapeUp, SX.evFieldAddr, SX.evField, SX.evIndexAddr, SX.evIndex, SX.evFill, SX.evBuild, SX.szs, SX.cellsV, SX.evNew, SX.evStore, SX.spliceL, SX.SV.cells, SX.evConv, SX.evSlice, SX.bnd, SX.evNil, SX.evUn, SX.evPick, SX.pickOpd, SX.popTo, SX.cnd, SX.env0, SX.TD.isAgg, SX.TD.isIface, SX.tails, SX.NotAgg, SX.evLookup, SX.evConvH, SX.evPtrEq, SX.isCells, SX.thaw, SX.frz, SX.fixB, SX.rootIx, SX.Froz, SX.frzStep, SX.fork, Go.Value.cells, Go.undef, cfg15]
    refine ⟨by (unfold SX.Ob; first | trivial | omega | ((try simp only [SX.inK]); (try simp [SX.den, SX.IsU8, SX.AllP, *]); (try omega))), ?_⟩
    intro a3 w3 hr3' _
    have hr3 := h2.unbase hr3'
    have hC3 := hC2.keep (by simpa [mutB] using hr3'.keeps.toBelow)
    refine post_loop (DropNil w c h L D G) 0 ⟨rfl, hC3, hr3.re (by simp [envTo, SX.look]) trivial rfl rfl⟩ ?_
    rintro m a4 w4 ⟨rfl, hC4, hr4⟩
    refine seg cfg15_ok mixed PanicFree.body 1000 [false] [] hr4.rebase (by first | trivial | exact HpRep.nil | assumption) (by kernel_rfl) fun s_ hs_ => ?_
    simp (maxSteps := 10000000) [SX.vc, SX.stop, SX.contS, SX.contB, SX.contW, SX.contR, SX.contD, SX.sxStep, SX.stepPure, SX.stepNew, SX.stepStore, SX.stepKeep, SX.guardIx, SX.evOp, SX.opd, SX.opds, SX.optOpd, SX.look, SX.putS, SX.gobs, SX.AllP, SX.leave, SX.lookC, SX.lookB, SX.lookT, SX.lookN, SX.findK, SX.evBuiltin, SX.ints, SX.foldI, SX.evBin, SX.evInt, SX.evStr, SX.evEq, SX.arith, SX.evLoad, SX.shapeUp, SX.evFieldAddr, SX.evField, SX.evIndexAddr, SX.evIndex, SX.evFill, SX.evBuild, SX.szs, SX.cellsV, SX.evNew, SX.evStore, SX.spliceL, SX.SV.cells, SX.evConv, SX.evSlice, SX.bnd, SX.evNil, SX.evUn, SX.evPick, SX.pickOpd, SX.popTo, SX.cnd, SX.env0, SX.TD.isAgg, SX.TD.isIface, SX.tails, SX.NotAgg, SX.evLookup, SX.evConvH, SX.evPtrEq, SX.isCells, SX.thaw, SX.frz, SX.fixB, SX.rootIx, SX.Froz, SX.frzStep, SX.fork, Go.Value.cells, Go.undef, cfg15]
    refine ⟨by (unfold SX.Ob; first | trivial | omega | ((try simp only [SX.inK]); (try simp [SX.den, SX.IsU8, SX.AllP, *]); (try omega))), ?_⟩
    intro a5 w5 hr5' _
    have hr5 := hr4.unbase hr5'
    have hC5 := hC4.keep (by simpa [mutB] using hr5'.keeps.toBelow)
    obtain rfl : L = [] := List.eq_nil_of_length_eq_zero hL0
    exact post_retn (end1 hr5 rfl rfl ⟨rfl, hr5.keeps, hC5⟩).1
  · have h2 := hr1.ret hb2 11 (.sl 0 b 0 0 L.length cap 1) rfl [(b, false, .arr 0 N row 1 u (0, 0))] ⟨⟨hH.1.1, by simp, by simp⟩, trivial⟩ (by simp) rfl
    refine seg cfg15_ok mixed PanicFree.body 1000 [] [] h2.rebase (by first | trivial | exact HpRep.nil | assumption) (by kernel_rfl) fun s_ hs_ => ?_
    simp (maxSteps := 10000000) [SX.vc, SX.stop, SX.contS, SX.contB, SX.contW, SX.contR, SX.contD, SX.sxStep, SX.stepPure, SX.stepNew, SX.stepStore, SX.stepKeep, SX.guardIx, SX.evOp, SX.opd, SX.opds, SX.optOpd, SX.look, SX.putS, SX.gobs, SX.AllP, SX.leave, SX.lookC, SX.lookB, SX.lookT, SX.lookN, SX.findK, SX.evBuiltin, SX.ints, SX.foldI, SX.evBin, SX.evInt, SX.evStr, SX.evEq, SX.arith, SX.evLoad, SX.shapeUp, SX.evFieldAddr, SX.evField, SX.evIndexAddr, SX.evIndex, SX.evFill, SX.evBuild, SX.szs, SX.cellsV, SX.evNew, SX.evStore, SX.spliceL, SX.SV.cells, SX.evConv, SX.evSlice, SX.bnd, SX.evNil, SX.evUn, SX.evPick, SX.pickOpd, SX.popTo, SX.cnd, SX.env0, SX.TD.isAgg, SX.TD.isIface, SX.tails, SX.NotAgg, SX.evLookup, SX.evConvH, SX.evPtrEq, SX.isCells, SX.thaw, SX.frz, SX.fixB, SX.rootIx, SX.Froz, SX.frzStep, SX.fork, Go.Value.cells, Go.undef, cfg15]
    refine ⟨by (unfold SX.Ob; first | trivial | omega | ((try simp only [SX.inK]); (try simp [SX.den, SX.IsU8, SX.AllP, *]); (try omega))), ?_⟩
    intro a3 w3 hr3' _
    have hr3 := h2.unbase hr3'
    have hC3 := hC2.keep (by simpa [mutB] using hr3'.keeps.toBelow)
    have hbR : b ∉ h.mp :: c :: L := fun e => by have := hC1.lt e; have h5 : w1.heap.size ≤ b := hB; omega
    refine post_loop (DropLoop w c h L D G lba n b cap N row u) L.length ⟨0, rfl, Nat.zero_le _, by rw [restK_zero]; exact hC3, hr3.re (by simp [envTo, SX.look, goneK]) hr3.all rfl rfl⟩ ?_
    rintro m a4 w4 ⟨k, rfl, hk, hC4, hr4⟩
    by_cases hlt : k < L.length
    · obtain ⟨z, hg⟩ : ∃ z, L[k]? = some z := ⟨_, List.getElem?_eq_getElem hlt⟩
      have hzL : z ∈ L := List.mem_of_getElem? hg
      have hzr : z ∈ restK lba n L D k := restK_at hg
      have hzb : b ≠ z := fun e => hbR (by simp [e, hzL])
      have hn := hC4.ring.node z hzr
      have hA := hr4.all
      obtain ⟨hz1, hz2⟩ := hin z hzL
      have hgl := goneK_le (lba := lba) (n := n) (L := L) (D := D) (k := k)
      have harr : SO.rep w4 b (.arr 0 N (fun j => if j = k then [.ptr 1 z 0] else row j) 1 u (0, 0)) := rep_arr_sub hA.1.1 (Nat.le_refl _) fun j _ => by
        by_cases hj : j = k
        · subst hj; rw [hrow j hlt, hg]; simp [npv, denL, den]
        · simp [hj]
      have harr' : ∀ {w : World}, SO.rep w b (.arr 0 N (fun j => if j = k then [.ptr 1 z 0] else row j) 1 u (0, 0)) → SO.rep w b (.arr 0 N row 1 u (0, 0)) := fun h => rep_arr_sub h (Nat.le_refl _) fun j _ => by
        by_cases hj : j = k
        · subst hj; rw [hrow j hlt, hg]; simp [npv, denL, den]
        · simp [hj]
      have hr5 : RepX ⟨w, w.heap.size, h.mp :: c :: L⟩ ⟨[(13, 0, .v (.int .i64 k)), (12, 0, .v (.int .i64 L.length)), (11, 0, .sl 0 b 0 0 L.length cap 1), (7, 0, .v (.int .i64 (goneK lba n L D k))), (2, 0, .v (.int .i64 n)), (1, 0, .v (.int .i64 lba)), (0, 0, .v (.pointer (some ⟨c, 0, none⟩)))], [(b, false, .arr 0 N (fun j => if j = k then [.ptr 1 z 0] else row j) 1 u (0, 0)), (z, false, .cells (nodeCells (D z) (.v (npv c (predL (restK lba n L D k) z))) (.v (npv c (succL (restK lba n L D k) z)))) 52)], 0, 0, 40, [], [], []⟩ a4 w4 :=
        hr4.re (by simp [envTo, SX.look, den]) ⟨⟨harr, by simp, by simpa using hzb⟩, ⟨hn, by simp, by simp⟩, trivial⟩ rfl rfl
      by_cases h1 : lba ≤ (D z).lba
      · by_cases h2 : (D z).lba - lba < n
        · have hgo : goesB lba n (D z).lba = true := by simp [goesB, h1, h2]
          refine seg cfg15_ok mixed PanicFree.body 1000 [true, true] [] hr5.rebase (by first | trivial | exact HpRep.nil | assumption) (by kernel_rfl) fun s_ hs_ => ?_
          simp (maxSteps := 10000000) [SX.vc, SX.stop, SX.contS, SX.contB, SX.contW, SX.contR, SX.contD, SX.sxStep, SX.stepPure, SX.stepNew, SX.stepStore, SX.stepKeep, SX.guardIx, SX.evOp, SX.opd, SX.opds, SX.optOpd, SX.look, SX.putS, SX.gobs, SX.AllP, SX.leave, SX.lookC, SX.lookB, SX.lookT, SX.lookN, SX.findK, SX.evBuiltin, SX.ints, SX.foldI, SX.evBin, SX.evInt, SX.evStr, SX.evEq, SX.arith, SX.evLoad, SX.shapeUp, SX.evFieldAddr, SX.evField, SX.evIndexAddr, SX.evIndex, SX.evFill, SX.evBuild, SX.szs, SX.cellsV, SX.evNew, SX.evStore, SX.spliceL, SX.SV.cells, SX.evConv, SX.evSlice, SX.bnd, SX.evNil, SX.evUn, SX.evPick, SX.pickOpd, SX.popTo, SX.cnd, SX.env0, SX.TD.isAgg, SX.TD.isIface, SX.tails, SX.NotAgg, SX.evLookup, SX.evConvH, SX.evPtrEq, SX.isCells, SX.thaw, SX.frz, SX.fixB, SX.rootIx, SX.Froz, SX.frzStep, SX.fork, Go.Value.cells, Go.undef, cfg15, nodeCells]
          refine ⟨by (unfold SX.Ob; first | trivial | omega | ((try simp only [SX.inK]); (try simp [SX.den, SX.IsU8, SX.AllP, *]); (try omega))), ?_⟩
          intro a6 w6 hr6' _
          have hr6 := hr5.unbase hr6'
          have hC6 := hC4.keep (by simpa [mutB] using hr6'.keeps.toBelow)
          refine post_call 17 [.v (.pointer (some ⟨c, 0, none⟩)), .ptr 1 z 0] hr6 (wanted_none rfl) rfl (callable 17 Try.func17) (drop_ok w6 c h _ D hC6.ring z hzr _ hC6.map hC6.mpc hC6.mpL) ?_
          rintro e w7 ⟨rfl, hk7, hR7, hm7⟩
          refine ⟨_, rfl, ?_⟩
          have hC7 := hC6.dropped hzr hk7 hR7 hm7
          rw [← restK_gone hC.ring.nd hg hgo] at hC7
          have hbm : ∀ e ∈ ([(b, false, .arr 0 N row 1 u (0, 0))] : Hp), e.1 ∉ h.mp :: c :: restK lba n L D k := by
            intro e he hm
            simp at he
            subst he
            refine hbR ?_
            simp at hm ⊢
            rcases hm with h | h | h
            · exact .inl h
            · exact .inr (.inl h)
            · exact .inr (.inr (restK_mem h))
          have hA6 := hr6.all
          have h7 := hr6.retK hk7 (fun x hx => .inr (by
            simp at hx ⊢
            rcases hx with h | h | h
            · exact .inl h
            · exact .inr (.inl h)
            · exact .inr (.inr (restK_mem h)))) 35 (.tu []) rfl [(b, false, .arr 0 N row 1 u (0, 0))] (HpAll.to hk7 ⟨⟨harr' hA6.1.1, by simp, by simp⟩, trivial⟩ hbm) (by simp) rfl
          refine seg cfg15_ok mixed PanicFree.body 1000 [] [] h7.rebase (by first | trivial | exact HpRep.nil | assumption) (by kernel_rfl) fun s_ hs_ => ?_
          simp (maxSteps := 10000000) [SX.vc, SX.stop, SX.contS, SX.contB, SX.contW, SX.contR, SX.contD, SX.sxStep, SX.stepPure, SX.stepNew, SX.stepStore, SX.stepKeep, SX.guardIx, SX.evOp, SX.opd, SX.opds, SX.optOpd, SX.look, SX.putS, SX.gobs, SX.AllP, SX.leave, SX.lookC, SX.lookB, SX.lookT, SX.lookN, SX.findK, SX.evBuiltin, SX.ints, SX.foldI, SX.evBin, SX.evInt, SX.evStr, SX.evEq, SX.arith, SX.evLoad, SX.shapeUp, SX.evFieldAddr, SX.evField, SX.evIndexAddr, SX.evIndex, SX.evFill, SX.evBuild, SX.szs, SX.cellsV, SX.evNew, SX.evStore, SX.spliceL, SX.SV.cells, SX.evConv, SX.evSlice, SX.bnd, SX.evNil, SX.evUn, SX.evPick, SX.pickOpd, SX.popTo, SX.cnd, SX.env0, SX.TD.isAgg, SX.TD.isIface, SX.tails, SX.NotAgg, SX.evLookup, SX.evConvH, SX.evPtrEq, SX.isCells, SX.thaw, SX.frz, SX.fixB, SX.rootIx, SX.Froz, SX.frzStep, SX.fork, Go.Value.cells, Go.undef, cfg15]
          refine ⟨by (unfold SX.Ob; first | trivial | omega | ((try simp only [SX.inK]); (try simp [SX.den, SX.IsU8, SX.AllP, *]); (try omega))), ?_⟩
          intro a8 w8 hr8' _
          have hr8 := h7.unbase hr8'
          have hC8 := hC7.keep (by simpa [mutB] using hr8'.keeps.toBelow)
          exact post_rnd (L.length - (k + 1)) (by omega) ⟨k + 1, rfl, hlt, hC8, hr8.re (by simp [envTo, SX.look, den, goneK_succ hg, hgo]) hr8.all rfl rfl⟩
        · have hgo : goesB lba n (D z).lba = false := by simp [goesB, h2]
          refine seg cfg15_ok mixed PanicFree.body 1000 [true, false] [] hr5.rebase (by first | trivial | exact HpRep.nil | assumption) (by kernel_rfl) fun s_ hs_ => ?_
          simp (maxSteps := 10000000) [SX.vc, SX.stop, SX.contS, SX.contB, SX.contW, SX.contR, SX.contD, SX.sxStep, SX.stepPure, SX.stepNew, SX.stepStore, SX.stepKeep, SX.guardIx, SX.evOp, SX.opd, SX.opds, SX.optOpd, SX.look, SX.putS, SX.gobs, SX.AllP, SX.leave, SX.lookC, SX.lookB, SX.lookT, SX.lookN, SX.findK, SX.evBuiltin, SX.ints, SX.foldI, SX.evBin, SX.evInt, SX.evStr, SX.evEq, SX.arith, SX.evLoad, SX.shapeUp, SX.evFieldAddr, SX.evField, SX.evIndexAddr, SX.evIndex, SX.evFill, SX.evBuild, SX.szs, SX.cellsV, SX.evNew, SX.evStore, SX.spliceL, SX.SV.cells, SX.evConv, SX.evSlice, SX.bnd, SX.evNil, SX.evUn, SX.evPick, SX.pickOpd, SX.popTo, SX.cnd, SX.env0, SX.TD.isAgg, SX.TD.isIface, SX.tails, SX.NotAgg, SX.evLookup, SX.evConvH, SX.evPtrEq, SX.isCells, SX.thaw, SX.frz, SX.fixB, SX.rootIx, SX.Froz, SX.frzStep, SX.fork, Go.Value.cells, Go.undef, cfg15, nodeCells]
          refine ⟨by (unfold SX.Ob; first | trivial | omega | ((try simp only [SX.inK]); (try simp [SX.den, SX.IsU8, SX.AllP, *]); (try omega))), ?_⟩
          intro a6 w6 hr6' _
          have hr6 := hr5.unbase hr6'
          have hC6 := hC4.keep (by simpa [mutB] using hr6'.keeps.toBelow)
          rw [← restK_keep hg hgo] at hC6
          exact post_rnd (L.length - (k + 1)) (by omega) ⟨k + 1, rfl, hlt, hC6, hr6.re (by simp [envTo, SX.look, den, goneK_succ hg, hgo]) ⟨⟨harr' hr6.all.1.1, by simp, by simp⟩, trivial⟩ rfl rfl⟩
      · have hgo : goesB lba n (D z).lba = false := by simp [goesB, h1]
        refine seg cfg15_ok mixed PanicFree.body 1000 [true, false] [(23, false)] hr5.rebase (by first | trivial | exact HpRep.nil | assumption) (by kernel_rfl) fun s_ hs_ => ?_
        simp (maxSteps := 10000000) [SX.vc, SX.stop, SX.contS, SX.contB, SX.contW, SX.contR, SX.contD, SX.sxStep, SX.stepPure, SX.stepNew, SX.stepStore, SX.stepKeep, SX.guardIx, SX.evOp, SX.opd, SX.opds, SX.optOpd, SX.look, SX.putS, SX.gobs, SX.AllP, SX.leave, SX.lookC, SX.lookB, SX.lookT, SX.lookN, SX.findK, SX.evBuiltin, SX.ints, SX.foldI, SX.evBin, SX.evInt, SX.evStr, SX.evEq, SX.arith, SX.evLoad, SX.shapeUp, SX.evFieldAddr, SX.evField, SX.evIndexAddr, SX.evIndex, SX.evFill, SX.evBuild, SX.szs, SX.cellsV, SX.evNew, SX.evStore, SX.spliceL, SX.SV.cells, SX.evConv, SX.evSlice, SX.bnd, SX.evNil, SX.evUn, SX.evPick, SX.pickOpd, SX.popTo, SX.cnd, SX.env0, SX.TD.isAgg, SX.TD.isIface, SX.tails, SX.NotAgg, SX.evLookup, SX.evConvH, SX.evPtrEq, SX.isCells, SX.thaw, SX.frz, SX.fixB, SX.rootIx, SX.Froz, SX.frzStep, SX.fork, Go.Value.cells, Go.undef, cfg15, nodeCells]
        refine ⟨by (unfold SX.Ob; first | trivial | omega | ((try simp only [SX.inK]); (try simp [SX.den, SX.IsU8, SX.AllP, *]); (try omega))), ?_⟩
        intro a6 w6 hr6' _
        have hr6 := hr5.unbase hr6'
        have hC6 := hC4.keep (by simpa [mutB] using hr6'.keeps.toBelow)
        rw [← restK_keep hg hgo] at hC6
        exact post_rnd (L.length - (k + 1)) (by omega) ⟨k + 1, rfl, hlt, hC6, hr6.re (by simp [envTo, SX.look, den, goneK_succ hg, hgo]) ⟨⟨harr' hr6.all.1.1, by simp, by simp⟩, trivial⟩ rfl rfl⟩
    · obtain rfl : k = L.length := by omega
      refine seg cfg15_ok mixed PanicFree.body 1000 [false] [] hr4.rebase (by first | trivial | exact HpRep.nil | assumption) (by kernel_rfl) fun s_ hs_ => ?_
      simp (maxSteps := 10000000) [SX.vc, SX.stop, SX.contS, SX.contB, SX.contW, SX.contR, SX.contD, SX.sxStep, SX.stepPure, SX.stepNew, SX.stepStore, SX.stepKeep, SX.guardIx, SX.evOp, SX.opd, SX.opds, SX.optOpd, SX.look, SX.putS, SX.gobs, SX.AllP, SX.leave, SX.lookC, SX.lookB, SX.lookT, SX.lookN, SX.findK, SX.evBuiltin, SX.ints, SX.foldI, SX.evBin, SX.evInt, SX.evStr, SX.evEq, SX.arith, SX.evLoad, SX.shapeUp, SX.evFieldAddr, SX.evField, SX.evIndexAddr, SX.evIndex, SX.evFill, SX.evBuild, SX.szs, SX.cellsV, SX.evNew, SX.evStore, SX.spliceL, SX.SV.cells, SX.evConv, SX.evSlice, SX.bnd, SX.evNil, SX.evUn, SX.evPick, SX.pickOpd, SX.popTo, SX.cnd, SX.env0, SX.TD.isAgg, SX.TD.isIface, SX.tails, SX.NotAgg, SX.evLookup, SX.evConvH, SX.evPtrEq, SX.isCells, SX.thaw, SX.frz, SX.fixB, SX.rootIx, SX.Froz, SX.frzStep, SX.fork, Go.Value.cells, Go.undef, cfg15]
      refine ⟨by (unfold SX.Ob; first | trivial | omega | ((try simp only [SX.inK]); (try simp [SX.den, SX.IsU8, SX.AllP, *]); (try omega))), ?_⟩
      intro a5 w5 hr5' _
      have hr5 := hr4.unbase hr5'
      have hC5 := hC4.keep (by simpa [mutB] using hr5'.keeps.toBelow)
      exact post_retn (end1 hr5 rfl rfl ⟨rfl, hr5.keeps, hC5⟩).1

def dropL (lba n : Int) (A : List It) : List It := A.filter fun x => !goesB lba n x.lba

def DropS (P : Nat → Prop) (w : World) (c : Nat) (most hits fails : Int) (A : List It) (lba n : Int) (e : Ending) (w' : World) : Prop :=
  e = .returned (.int .i64 ((A.filter fun x => goesB lba n x.lba).length : Int)) ∧ Cha P w w' ∧ CS P w' c most hits fails (dropL lba n A)

theorem drop_okS (P : Nat → Prop) (w : World) (c : Nat) (most hits fails : Int) (A : List It) (hS : CS P w c most hits fails A) (lba n : Int) (hl : 0 ≤ lba) (hin : ∀ x ∈ A, 0 ≤ x.lba ∧ x.lba ≤ 9223372036854775807) (hlen : A.length ≤ 1000000) :
    Calls Try.prog 15 (denL [.v (.pointer (some ⟨c, 0, none⟩)), .v (.int .i64 lba), .v (.int .i64 n)]).toArray w (DropS P w c most hits fails A lba n) := by
  obtain ⟨mp, L, D, G, hC, rfl, hA⟩ := hS
  refine (dropAll_ok w c _ L D G hC lba n hl (fun b hb => hin _ (List.mem_map.2 ⟨b, hb, rfl⟩)) (by simpa [itemsOf] using hlen)).mono ?_
  rintro e w' ⟨rfl, hk, hC'⟩
  refine ⟨?_, ⟨_, hk, hA⟩, _, _, _, _, hC', ?_, fun x hx => hA x ?_⟩
  · simp [goneK, itemsOf, List.filter_map, Function.comp_def]
  · simp [restK_all, dropL, itemsOf, List.filter_map, Function.comp_def]
  · simp only [List.mem_cons] at hx ⊢
    rcases hx with h | h | h
    · exact .inl h
    · exact .inr (.inl h)
    · exact .inr (.inr (restK_mem h))
end Go.Proofs
