/- The cache: CacheLast walked. -/
import Derived.Test.YtppgccbloaijoaaCZA
namespace Go.Proofs
set_option linter.unusedVariables false
set_option linter.unusedSimpArgs false
set_option linter.unusedSectionVars false
open Go Go.SX Go.RowKit Go.Ring

theorem HpRep.cha {H : Hp} {w w' : World} {P : Nat → Prop} (h : HpRep H w) (hk : Cha P w w') (hn : ∀ e ∈ H, ¬ P e.1) : HpRep H w' := by
  obtain ⟨M, h1, h2⟩ := hk
  exact fun i b m o hi => h1.same (h i b m o hi) fun hm => hn _ (List.mem_of_getElem? hi) (h2 _ hm)

/-- A store into a map, in a region that draws. -/
theorem post_updD3 {K : Type} [DecidableEq K] {kv : K → Value} {G : K → Prop} {P : Program} {Q : Exit → Act → World → Prop} {F : Fr} {st : St} {all : Array Oper} {hp0 : Hp} {o : Oper} {ix : Nat} {l : List (Nat × Nat)} {ks : List W} {a : Act} {w : World} {t kt et : TypeId} {es : Array MapEntry} {clk j b : Nat} {m : K → Option Value} {k : K} {xo ko vo : Operand} {y : SV}
    (hr : RepX F st a w) (hix : all[ix]? = some o) (hw : o.guard = none) (hd : o.dst = none) (hop : o.op = .mapUpdate t xo ko vo) (hx : opd st 0 xo = some (.mp j b)) (hk : opd st 0 ko = some y) (hy : den y = kv k) {x : SV} (hv : opd st 0 vo = some x) (Qk : KeyOK kv G P kt) (ht : P.underlying t = some (.map kt et))
    (hj : st.hp[j]? = some (b, true, .obj (.map es clk))) (hm : KM kv G es clk m) (hG : G k) (htl : tails l = true) (hfz : frz hp0 = [])
    (hn : ∀ a' w' es1 clk1, KM kv G es1 clk1 (updK m k (den x)) → KeepsTo w [b] w' → RepX F { st with hp := st.hp.set j (b, true, .obj (.map es1 clk1)) } a' w' → post P Q (.opsD all [] l :: ks) .normal a' w') : post P Q (.opsD all hp0 ((ix, 3) :: l) :: ks) .normal a w := by
  have he := hr.env.same (st' := st) rfl rfl rfl rfl
  have hb := hr.hp j b true _ hj
  obtain ⟨es1, clk1, h1, h2⟩ := hm.update Qk ht hb hG (den x)
  have hrun : (execOp a.eval o).run P w = .ok .skip (putBlk w b (.map es1 clk1)) := by
    simp only [execOp, hop, opd_sound he rfl hx, opd_sound he rfl hk, hy, opd_sound he rfl hv, Sem.run_bind, den, h1, Result.andThen_ok, Sem.run_pure]
  have hmm := hr.mem.store hj (new := .obj (.map es1 clk1)) (o := .map es1 clk1) (putBlk_same (lt_of_heap hb))
  show wpSeqD P all (post P Q ks) (HpRep hp0) (HpRep (frz hp0)) ((ix, 3) :: l) a w
  simp only [wpSeqD, Nat.reduceBEq, Bool.false_eq_true, if_false, if_true]
  unfold wpOp
  simp only [hix, wanted_none hw, if_true]
  refine .inl ?_
  simp only [Oper.wp, hrun, Oper.upon]
  refine ⟨by rw [hfz]; exact HpRep.nil, ?_⟩
  have hgo : ∀ a w, wpSeqD P all (post P Q ks) (HpRep []) (HpRep (frz [])) l a w → wpSeqD P all (post P Q ks) (HpRep hp0) (HpRep (frz hp0)) l a w := fun a w h => by rw [hfz]; exact seqD_tails _ l _ _ htl h
  refine hgo _ _ ?_
  have hfin := hn (a.put o.dst undef) (putBlk w b (.map es1 clk1)) es1 clk1 h2 putBlk_keeps (by
    rw [hd]
    refine Rep.of_mem (hr.env.same rfl rfl rfl rfl) ?_
    show MemRep F _ (putBlk w b _).heap.size 0 (putBlk w b _)
    rw [putBlk_size]
    exact hmm)
  exact hfin

/-- Objects that are no bytes may change. -/
theorem CS.keepM {P : Nat → Prop} {w w' : World} {c : Nat} {most hits fails : Int} {A : List It} {M : List Nat} (h : CS P w c most hits fails A) (hk : KeepsTo w M w') (hM : ∀ x ∈ M, ¬ P x ∧ ∀ c u fz, w.heap[x]? ≠ some (.cells c u fz)) : CS P w' c most hits fails A := by
  obtain ⟨mp, L, D, G, hC, hA, hP⟩ := h
  have hs : ∀ x, x ∈ mp :: c :: L → w'.heap[x]? = w.heap[x]? := fun x hx => hk.block x (hC.lt hx) fun hm => (hM x hm).1 (hP x hx)
  refine ⟨mp, L, D, G, ⟨hC.ring.keep fun x hx => hs x (by simpa using Or.inr hx), SO.rep_same hC.map (hs mp (by simp)), hC.mpc, hC.mpL, hC.inj, fun b hb => ?_⟩, hA, hP⟩
  obtain ⟨db, cap, h1, ⟨u, h2⟩, h3⟩ := hC.byt b hb
  refine ⟨db, cap, h1, ⟨u, hk.same h2 fun hm => ?_⟩, h3⟩
  obtain ⟨cc, hcc, _⟩ := h2
  exact (hM db hm).2 _ _ _ hcc

theorem pair41 : KeyOK kv2 In2 Try.prog 41 := pairOK Try.underlying41 Try.underlying3 (by kernel_rfl) (by kernel_rfl) (by kernel_rfl) (by kernel_rfl) (of_decide_eq_true (by kernel_rfl))

def LsLoop (w : World) (ops : List Opc) (vo : Value) (x : Int) (c bm : Nat) (mm : Int) (m : Nat) (a : Act) (w' : World) : Prop :=
  ∃ (k : Nat) (es : Array MapEntry) (clk : Nat) (mL : Int × Int → Option Value) (A : List It) (hits fails : Int), m = ops.length - k ∧ k ≤ ops.length ∧ KM kv2 In2 es clk mL ∧ LI mm A mL ∧ A.length ≤ k ∧ (0 ≤ hits ∧ hits ≤ k) ∧ (0 ≤ fails ∧ fails ≤ k) ∧ CS (fun y => w.heap.size ≤ y ∧ y ≠ bm) w' c mm hits fails A ∧
    RepX (frame0 w) ⟨[(28, 0, .v (.int .i64 k)), (27, 0, .v (.int .i64 ops.length)), (26, 0, .v vo), (1, 0, .v vo), (0, 0, .v (.int .i64 x)), (6, 0, .v (.pointer (some ⟨c, 0, none⟩))), (7, 0, .mp 0 bm), (4, 0, .v (.bool false)), (5, 0, .v (.bool true))], [(bm, true, .obj (.map es clk))], 0, 0, 155, [], [], []⟩ a w'
def LsJ (w : World) (ops : List Opc) (vo : Value) (x : Int) (c bm : Nat) (mm : Int) (k : Nat) (a : Act) (w' : World) : Prop :=
  ∃ (es : Array MapEntry) (clk : Nat) (mL : Int × Int → Option Value) (A : List It) (hits fails : Int), KM kv2 In2 es clk mL ∧ LI mm A mL ∧ A.length ≤ k + 1 ∧ (0 ≤ hits ∧ hits ≤ (k : Int) + 1) ∧ (0 ≤ fails ∧ fails ≤ (k : Int) + 1) ∧ CS (fun y => w.heap.size ≤ y ∧ y ≠ bm) w' c mm hits fails A ∧
    RepX (frame0 w) ⟨[(28, 0, .v (.int .i64 k)), (27, 0, .v (.int .i64 ops.length)), (26, 0, .v vo), (1, 0, .v vo), (0, 0, .v (.int .i64 x)), (6, 0, .v (.pointer (some ⟨c, 0, none⟩))), (7, 0, .mp 0 bm), (4, 0, .v (.bool false)), (5, 0, .v (.bool true))], [(bm, true, .obj (.map es clk))], 0, 0, 155, [], [], []⟩ a w'

def NwLoop (w : World) (ops : List Opc) (vo : Value) (x : Int) (c bm : Nat) (mm : Int) (k : Nat) (o : Opc) (b sO : Nat) (es : Array MapEntry) (clk : Nat) (mL : Int × Int → Option Value) (A : List It) (hits fails : Int) (r : Nat) (m : Nat) (a : Act) (w' : World) : Prop :=
  ∃ (seen : Array Nat) (c0 : Nat) (nw : Bool), m = (leftOf es seen).size ∧ clk ≤ c0 ∧ (nw = true → ∃ p v, mL p = some v ∧ newerC A o.lba o.ver p) ∧ (nw = false → ∀ e ∈ es.toList, seen.contains e.born = true → ∀ p, e.key = kv2 p → ¬ newerC A o.lba o.ver p) ∧
    CS (fun y => ((w.heap.size ≤ y ∧ y ≠ bm) ∧ y ≠ sO) ∧ y ≠ r) w' c mm hits fails A ∧
    RepX (frame0 w) ⟨[(47, 0, .ptr 3 r 0), (10, 0, .v (.bool nw)), (9, 0, .ptr 2 sO 0), (28, 0, .v (.int .i64 k)), (27, 0, .v (.int .i64 ops.length)), (26, 0, .v vo), (1, 0, .v vo), (0, 0, .v (.int .i64 x)), (6, 0, .v (.pointer (some ⟨c, 0, none⟩))), (7, 0, .mp 0 bm), (4, 0, .v (.bool false)), (5, 0, .v (.bool true))], [(bm, false, .obj (.map es clk)), (b, false, .any), (sO, false, .cells [.v (.int .i64 o.d), .v (.int .i64 o.lba), .v (.int .i64 o.ver), .v (.int .i64 o.n), .v (.bool o.lg)] 40), (r, true, .obj (.mapIter (some bm) clk seen c0))], 0, 0, 155, [], [], []⟩ a w'

def KyLoop (w : World) (ops : List Opc) (vo : Value) (x : Int) (c bm : Nat) (mm : Int) (k : Nat) (o : Opc) (b sO : Nat) (es : Array MapEntry) (clk : Nat) (B : List It) (hits fails : Int) (vk : Value) (z : Nat) (m : Nat) (a : Act) (w' : World) : Prop :=
  ∃ j : Nat, m = (keysL B).length - j ∧ j ≤ (keysL B).length ∧ RdK (fun y => sO < y ∧ y < z) w' vk (keysL B) ∧ z ≤ w'.heap.size ∧ CS (fun y => (w.heap.size ≤ y ∧ y ≠ bm) ∧ y ≠ sO) w' c mm hits fails B ∧
    RepX (frame0 w) ⟨[(127, 0, .v (.int .i64 j)), (126, 0, .v (.int .i64 (keysL B).length)), (125, 0, .v vk), (9, 0, .ptr 2 sO 0), (28, 0, .v (.int .i64 k)), (27, 0, .v (.int .i64 ops.length)), (26, 0, .v vo), (1, 0, .v vo), (0, 0, .v (.int .i64 x)), (6, 0, .v (.pointer (some ⟨c, 0, none⟩))), (7, 0, .mp 0 bm), (4, 0, .v (.bool false)), (5, 0, .v (.bool true))], [(bm, false, .obj (.map es clk)), (b, false, .any), (sO, false, .cells [.v (.int .i64 o.d), .v (.int .i64 o.lba), .v (.int .i64 o.ver), .v (.int .i64 o.n), .v (.bool o.lg)] 40)], 0, 0, 155, [], [], []⟩ a w'

set_option maxRecDepth 100000 in
set_option maxHeartbeats 64000000 in
/-- CacheLast. -/
theorem last_ok (w : World) (x : Int) (v : Value) (ops : List Opc) (hQ : RdC (fun y => y < w.heap.size) w v ops) (hI : ∀ o ∈ ops, InC o) (hx : inK x) (hn : ops.length ≤ 1000000000000000) : Calls Try.prog 4 (denL [.v (.int .i64 x), .v v]).toArray w (RoomPost w) := by
  obtain ⟨ad, cp, rfl⟩ := hQ.slice
  refine enter (F := frame0 w) Try.func4 rfl [.v (.int .i64 x), .v (.slice ad ops.length cp)] [] (by simp [Try.f4]) trivial (keeps0 w) fun a hr => ?_
  refine seg cfg4_ok mixed PanicFree.body 1000 [] [] hr (by first | trivial | exact HpRep.nil | assumption) (by kernel_rfl) fun s_ hs_ => ?_
  simp (maxSteps := 10000000) [SX.vc, SX.stop, SX.contS, SX.contB, SX.contW, SX.contR, SX.contD, SX.sxStep, SX.stepPure, SX.stepNew, SX.stepStore, SX.stepKeep, SX.guardIx, SX.evOp, SX.opd, SX.opds, SX.optOpd, SX.look, SX.putS, SX.gobs, SX.AllP, SX.leave, SX.lookC, SX.lookB, SX.lookT, SX.lookN, SX.findK, SX.evBuiltin, SX.ints, SX.foldI, SX.evBin, SX.evInt, SX.evStr, SX.evEq, SX.arith, SX.evLoad, SX.shapeUp, SX.evFieldAddr, SX.evField, SX.evIndexAddr, SX.evIndex, SX.evFill, SX.evBuild, SX.szs, SX.cellsV, SX.evNew, SX.evStore, SX.spliceL, SX.SV.cells, SX.evConv, SX.evSlice, SX.bnd, SX.evNil, SX.evUn, SX.evPick, SX.pickOpd, SX.popTo, SX.cnd, SX.env0, SX.TD.isAgg, SX.TD.isIface, SX.tails, SX.NotAgg, SX.evLookup, SX.evConvH, SX.evPtrEq, SX.isCells, SX.thaw, SX.frz, SX.fixB, SX.rootIx, SX.Froz, SX.frzStep, SX.fork, Go.Value.cells, Go.undef, cfg4, Try.f4]
  refine ⟨by (unfold SX.Ob; first | trivial | omega | ((try simp only [SX.inK]); (try simp [SX.den, SX.IsU8, SX.AllP, *]); (try omega))), ?_⟩
  intro a1 w1 hr1 _
  refine post_call 6 [] hr1 (by first | exact wanted_none rfl | exact wanted_zero (hr1.env.same rfl rfl rfl rfl) rfl (by simp) | exact wanted_zero (hr1.env.same rfl rfl rfl rfl) rfl (by simp [*])) rfl (callable 6 Try.func6) (live_ok w1) ?_
  rintro e2 w2 ⟨rfl, hb2⟩
  refine ⟨_, rfl, ?_⟩
  have h2 := hr1.ret hb2 18 (.v (.bool true)) rfl _ (hr1.all.below hb2) (by simp) rfl
  refine seg cfg4_ok mixed PanicFree.body 1000 [] [] h2 (by first | trivial | exact HpRep.nil | assumption) (by kernel_rfl) fun s_ hs_ => ?_
  simp (maxSteps := 10000000) [SX.vc, SX.stop, SX.contS, SX.contB, SX.contW, SX.contR, SX.contD, SX.sxStep, SX.stepPure, SX.stepNew, SX.stepStore, SX.stepKeep, SX.guardIx, SX.evOp, SX.opd, SX.opds, SX.optOpd, SX.look, SX.putS, SX.gobs, SX.AllP, SX.leave, SX.lookC, SX.lookB, SX.lookT, SX.lookN, SX.findK, SX.evBuiltin, SX.ints, SX.foldI, SX.evBin, SX.evInt, SX.evStr, SX.evEq, SX.arith, SX.evLoad, SX.shapeUp, SX.evFieldAddr, SX.evField, SX.evIndexAddr, SX.evIndex, SX.evFill, SX.evBuild, SX.szs, SX.cellsV, SX.evNew, SX.evStore, SX.spliceL, SX.SV.cells, SX.evConv, SX.evSlice, SX.bnd, SX.evNil, SX.evUn, SX.evPick, SX.pickOpd, SX.popTo, SX.cnd, SX.env0, SX.TD.isAgg, SX.TD.isIface, SX.tails, SX.NotAgg, SX.evLookup, SX.evConvH, SX.evPtrEq, SX.isCells, SX.thaw, SX.frz, SX.fixB, SX.rootIx, SX.Froz, SX.frzStep, SX.fork, Go.Value.cells, Go.undef, cfg4]
  refine ⟨by (unfold SX.Ob; first | trivial | omega | ((try simp only [SX.inK]); (try simp [SX.den, SX.IsU8, SX.AllP, *]); (try omega))), ?_⟩
  intro a3 w3 hr3 _
  refine post_call 13 [.v (.slice ad ops.length cp)] hr3 (by first | exact wanted_none rfl | exact wanted_zero (hr3.env.same rfl rfl rfl rfl) rfl (by simp) | exact wanted_zero (hr3.env.same rfl rfl rfl rfl) rfl (by simp [*])) rfl (callable 13 Try.func13) (few_ok w3 _ ops (hQ.below hr3.keeps.toBelow) hn) ?_
  rintro e4 w4 ⟨bF, rfl, hF, hb4⟩
  refine ⟨_, rfl, ?_⟩
  have h4 := hr3.ret hb4 20 (.v (.bool bF)) rfl _ (hr3.all.below hb4) (by simp) rfl
  rcases hbF : bF with _ | _
  · subst hbF
    refine seg cfg4_ok mixed PanicFree.body 1000 [true] [] h4 (by first | trivial | exact HpRep.nil | assumption) (by kernel_rfl) fun s_ hs_ => ?_
    simp (maxSteps := 10000000) [SX.vc, SX.stop, SX.contS, SX.contB, SX.contW, SX.contR, SX.contD, SX.sxStep, SX.stepPure, SX.stepNew, SX.stepStore, SX.stepKeep, SX.guardIx, SX.evOp, SX.opd, SX.opds, SX.optOpd, SX.look, SX.putS, SX.gobs, SX.AllP, SX.leave, SX.lookC, SX.lookB, SX.lookT, SX.lookN, SX.findK, SX.evBuiltin, SX.ints, SX.foldI, SX.evBin, SX.evInt, SX.evStr, SX.evEq, SX.arith, SX.evLoad, SX.shapeUp, SX.evFieldAddr, SX.evField, SX.evIndexAddr, SX.evIndex, SX.evFill, SX.evBuild, SX.szs, SX.cellsV, SX.evNew, SX.evStore, SX.spliceL, SX.SV.cells, SX.evConv, SX.evSlice, SX.bnd, SX.evNil, SX.evUn, SX.evPick, SX.pickOpd, SX.popTo, SX.cnd, SX.env0, SX.TD.isAgg, SX.TD.isIface, SX.tails, SX.NotAgg, SX.evLookup, SX.evConvH, SX.evPtrEq, SX.isCells, SX.thaw, SX.frz, SX.fixB, SX.rootIx, SX.Froz, SX.frzStep, SX.fork, Go.Value.cells, Go.undef, cfg4]
    refine ⟨by (unfold SX.Ob; first | trivial | omega | ((try simp only [SX.inK]); (try simp [SX.den, SX.IsU8, SX.AllP, *]); (try omega))), ?_⟩
    intro a5 w5 hr5 _
    exact post_retn (end1 hr5 rfl rfl ⟨rfl, hr5.keeps.toBelow⟩).1
  subst hbF
  obtain ⟨hF1, hF2⟩ := hF rfl
  refine seg cfg4_ok mixed PanicFree.body 1000 [false] [] h4 (by first | trivial | exact HpRep.nil | assumption) (by kernel_rfl) fun s_ hs_ => ?_
  simp (maxSteps := 10000000) [SX.vc, SX.stop, SX.contS, SX.contB, SX.contW, SX.contR, SX.contD, SX.sxStep, SX.stepPure, SX.stepNew, SX.stepStore, SX.stepKeep, SX.guardIx, SX.evOp, SX.opd, SX.opds, SX.optOpd, SX.look, SX.putS, SX.gobs, SX.AllP, SX.leave, SX.lookC, SX.lookB, SX.lookT, SX.lookN, SX.findK, SX.evBuiltin, SX.ints, SX.foldI, SX.evBin, SX.evInt, SX.evStr, SX.evEq, SX.arith, SX.evLoad, SX.shapeUp, SX.evFieldAddr, SX.evField, SX.evIndexAddr, SX.evIndex, SX.evFill, SX.evBuild, SX.szs, SX.cellsV, SX.evNew, SX.evStore, SX.spliceL, SX.SV.cells, SX.evConv, SX.evSlice, SX.bnd, SX.evNil, SX.evUn, SX.evPick, SX.pickOpd, SX.popTo, SX.cnd, SX.env0, SX.TD.isAgg, SX.TD.isIface, SX.tails, SX.NotAgg, SX.evLookup, SX.evConvH, SX.evPtrEq, SX.isCells, SX.thaw, SX.frz, SX.fixB, SX.rootIx, SX.Froz, SX.frzStep, SX.fork, Go.Value.cells, Go.undef, cfg4]
  refine ⟨by (unfold SX.Ob; first | trivial | omega | ((try simp only [SX.inK]); (try simp [SX.den, SX.IsU8, SX.AllP, *]); (try omega))), ?_⟩
  intro a5 w5 hr5 _
  have z5 : w.heap.size ≤ w5.heap.size := hr5.keeps.size
  refine post_call 7 [.v (.int .i64 x)] hr5 (wanted_none rfl) rfl (callable 7 Try.func7) (new_okS (fun y => w.heap.size ≤ y) w5 x hx (live_tail w5 _ z5)) ?_
  rintro e6 w6 ⟨c, rfl, hc, hb6, hS6⟩
  refine ⟨_, rfl, ?_⟩
  have h6 := hr5.ret hb6 24 (.v (.pointer (some ⟨c, 0, none⟩))) rfl [] trivial (by simp) rfl
  refine seg cfg4_ok mixed PanicFree.body 1000 [] [] h6.rebase (by first | trivial | exact HpRep.nil | assumption) (by kernel_rfl) fun bm hbm => ?_
  simp (maxSteps := 10000000) [SX.vc, SX.stop, SX.contS, SX.contB, SX.contW, SX.contR, SX.contD, SX.sxStep, SX.stepPure, SX.stepNew, SX.stepStore, SX.stepKeep, SX.guardIx, SX.evOp, SX.opd, SX.opds, SX.optOpd, SX.look, SX.putS, SX.gobs, SX.AllP, SX.leave, SX.lookC, SX.lookB, SX.lookT, SX.lookN, SX.findK, SX.evBuiltin, SX.ints, SX.foldI, SX.evBin, SX.evInt, SX.evStr, SX.evEq, SX.arith, SX.evLoad, SX.shapeUp, SX.evFieldAddr, SX.evField, SX.evIndexAddr, SX.evIndex, SX.evFill, SX.evBuild, SX.szs, SX.cellsV, SX.evNew, SX.evStore, SX.spliceL, SX.SV.cells, SX.evConv, SX.evSlice, SX.bnd, SX.evNil, SX.evUn, SX.evPick, SX.pickOpd, SX.popTo, SX.cnd, SX.env0, SX.TD.isAgg, SX.TD.isIface, SX.tails, SX.NotAgg, SX.evLookup, SX.evConvH, SX.evPtrEq, SX.isCells, SX.thaw, SX.frz, SX.fixB, SX.rootIx, SX.Froz, SX.frzStep, SX.fork, Go.Value.cells, Go.undef, cfg4]
  refine ⟨by (unfold SX.Ob; first | trivial | omega | ((try simp only [SX.inK]); (try simp [SX.den, SX.IsU8, SX.AllP, *]); (try omega))), ?_⟩
  intro a7 w7 hr7' _
  have hr7 := h6.unbase hr7'
  have z6 : w.heap.size ≤ w6.heap.size := h6.keeps.size
  have hA7 := hr7.all
  obtain ⟨es0, clk0, hb0, hm0⟩ := hA7.1.1
  have hS7 : CS (fun y => w.heap.size ≤ y ∧ y ≠ bm) w7 c (max x 0) 0 0 [] := (hS6.mono (P' := fun y => w.heap.size ≤ y ∧ y ≠ bm) fun y h1 h2 => ⟨h2, by omega⟩).keep (by simpa [mutB] using hr7'.keeps.toBelow)
  have hr8 := hr7.see [(bm, true, .obj (.map es0 clk0))] ⟨⟨hb0, hA7.1.2.1, by simp⟩, trivial⟩
  have lbm : w.heap.size ≤ bm := by omega
  obtain ⟨mm, hmm⟩ : ∃ mm, max x 0 = mm := ⟨_, rfl⟩
  have hmm0 : 0 ≤ mm := by omega
  rw [hmm] at hS7
  refine post_loop (LsLoop w ops (.slice ad ops.length cp) x c bm mm) ops.length ⟨0, es0, clk0, _, [], 0, 0, rfl, by omega, KM.ofNew hm0, ⟨by simp, by simp, by simp, by simpa using hmm0⟩, by simp, by simp, by simp, hS7, hr8.re (by simp [envTo, SX.look]) hr8.all rfl rfl⟩ ?_
  clear hr hr1 h2 hr3 h4 hr5 h6 hr7' hr7 hr8 hA7 hS6 hS7 hm0 hb0 hF
  rintro m a9 w9 ⟨k, es, clk, mL, A, hits, fails, rfl, hk, hKM, hLI, hAl, hh, hf, hS, hr9⟩
  have hbe9 : Below w.heap.size w w9 := hr9.keeps.toBelow
  have z9 : w.heap.size ≤ w9.heap.size := hr9.keeps.size
  by_cases hlt : k < ops.length
  rotate_left
  · obtain rfl : k = ops.length := by omega
    refine seg cfg4_ok mixed PanicFree.body 1000 [false] [] hr9 (by first | trivial | exact HpRep.nil | assumption) (by kernel_rfl) fun s_ hs_ => ?_
    simp (maxSteps := 10000000) [SX.vc, SX.stop, SX.contS, SX.contB, SX.contW, SX.contR, SX.contD, SX.sxStep, SX.stepPure, SX.stepNew, SX.stepStore, SX.stepKeep, SX.guardIx, SX.evOp, SX.opd, SX.opds, SX.optOpd, SX.look, SX.putS, SX.gobs, SX.AllP, SX.leave, SX.lookC, SX.lookB, SX.lookT, SX.lookN, SX.findK, SX.evBuiltin, SX.ints, SX.foldI, SX.evBin, SX.evInt, SX.evStr, SX.evEq, SX.arith, SX.evLoad, SX.shapeUp, SX.evFieldAddr, SX.evField, SX.evIndexAddr, SX.evIndex, SX.evFill, SX.evBuild, SX.szs, SX.cellsV, SX.evNew, SX.evStore, SX.spliceL, SX.SV.cells, SX.evConv, SX.evSlice, SX.bnd, SX.evNil, SX.evUn, SX.evPick, SX.pickOpd, SX.popTo, SX.cnd, SX.env0, SX.TD.isAgg, SX.TD.isIface, SX.tails, SX.NotAgg, SX.evLookup, SX.evConvH, SX.evPtrEq, SX.isCells, SX.thaw, SX.frz, SX.fixB, SX.rootIx, SX.Froz, SX.frzStep, SX.fork, Go.Value.cells, Go.undef, cfg4]
    refine ⟨by (unfold SX.Ob; first | trivial | omega | ((try simp only [SX.inK]); (try simp [SX.den, SX.IsU8, SX.AllP, *]); (try omega))), ?_⟩
    intro a10 w10 hr10 _
    exact post_retn (end1 hr10 rfl rfl ⟨rfl, hr10.keeps.toBelow⟩).1
  obtain ⟨b, o0, cap, u, fz, hP, hv, hrep⟩ := hQ.opn hlt
  cases hv
  have lb := SO.rep_lt hrep
  obtain ⟨o, ho⟩ : ∃ o, nth opc0 ops k = o := ⟨_, rfl⟩
  have hoL : o ∈ ops := ho ▸ nth_mem hlt
  obtain ⟨i1, i2, i3, i4⟩ := hI o hoL
  have hA9 := hr9.all
  have lbm9 : bm < w9.heap.size := SO.rep_lt hA9.1.1
  have h10 := (hr9.top 26 (.sl 1 b o0 0 ops.length cp 5) rfl (by simp [den])).see [(bm, false, .obj (.map es clk)), (b, false, .arr o0 ops.length (fun j => opcC (nth opc0 ops j)) 5 u fz)] ⟨⟨hA9.1.1, by simp, by simp; omega⟩, HpAll.one (SO.rep_same hrep (hbe9.block _ lb))⟩
  refine seg cfg4_ok mixed PanicFree.body 1000 [true] [] h10.rebase (by first | trivial | exact HpRep.nil | assumption) (by kernel_rfl) fun sO hsO => ?_
  simp (maxSteps := 10000000) [SX.vc, SX.stop, SX.contS, SX.contB, SX.contW, SX.contR, SX.contD, SX.sxStep, SX.stepPure, SX.stepNew, SX.stepStore, SX.stepKeep, SX.guardIx, SX.evOp, SX.opd, SX.opds, SX.optOpd, SX.look, SX.putS, SX.gobs, SX.AllP, SX.leave, SX.lookC, SX.lookB, SX.lookT, SX.lookN, SX.findK, SX.evBuiltin, SX.ints, SX.foldI, SX.evBin, SX.evInt, SX.evStr, SX.evEq, SX.arith, SX.evLoad, SX.shapeUp, SX.evFieldAddr, SX.evField, SX.evIndexAddr, SX.evIndex, SX.evFill, SX.evBuild, SX.szs, SX.cellsV, SX.evNew, SX.evStore, SX.spliceL, SX.SV.cells, SX.evConv, SX.evSlice, SX.bnd, SX.evNil, SX.evUn, SX.evPick, SX.pickOpd, SX.popTo, SX.cnd, SX.env0, SX.TD.isAgg, SX.TD.isIface, SX.tails, SX.NotAgg, SX.evLookup, SX.evConvH, SX.evPtrEq, SX.isCells, SX.thaw, SX.frz, SX.fixB, SX.rootIx, SX.Froz, SX.frzStep, SX.fork, Go.Value.cells, Go.undef, cfg4, opcC, ho]
  refine ⟨by (unfold SX.Ob; first | trivial | omega | ((try simp only [SX.inK]); (try simp [SX.den, SX.IsU8, SX.AllP, *]); (try omega))), ?_⟩
  intro a11 w11 hr11' _
  have hr11 := h10.unbase hr11'
  have hbe11 : Below w9.heap.size w9 w11 := by simpa [mutB] using hr11'.keeps.toBelow
  have lsO : w9.heap.size ≤ sO := by
    rcases hr11'.all.2.2.1.2.1 rfl with h | h
    · exact h
    · simp [frameAt, mutB] at h
  have hS11 := (hS.mono (P' := fun y => (w.heap.size ≤ y ∧ y ≠ bm) ∧ y ≠ sO) fun y h1 h2 => ⟨h2, by omega⟩).keep hbe11
  have hA11 := hr11.all
  have lsO11 := SO.rep_lt hA11.2.2.1.1
  have z11 : w.heap.size ≤ w11.heap.size := hr11.keeps.size
  have h11 := hr11.see [(bm, false, .obj (.map es clk)), (b, false, .any), (sO, false, .cells [.v (.int .i64 o.d), .v (.int .i64 o.lba), .v (.int .i64 o.ver), .v (.int .i64 o.n), .v (.bool o.lg)] 40)] ⟨⟨hA11.1.1, by simp, by simp; omega⟩, ⟨SO.rep_lt hA11.2.1.1, by simp, by simp; omega⟩, HpAll.one hA11.2.2.1.1⟩
  clear hr9 h10 hr11' hr11 hA9
  refine post_cut (LsJ w ops (.slice (some ⟨b, o0, none⟩) ops.length cp) x c bm mm k) 2 rfl ?_ fun a50 w50 hJ => ?_
  · by_cases d0 : o.d = 0
    · have d0' : (o.d == 0) = true := by simpa using d0
      refine seg cfg4_ok mixed PanicFree.body 1000 [true] [] h11.rebase (by first | trivial | exact HpRep.nil | assumption) (by kernel_rfl) fun s_ hs_ => ?_
      simp (maxSteps := 10000000) [SX.vc, SX.stop, SX.contS, SX.contB, SX.contW, SX.contR, SX.contD, SX.sxStep, SX.stepPure, SX.stepNew, SX.stepStore, SX.stepKeep, SX.guardIx, SX.evOp, SX.opd, SX.opds, SX.optOpd, SX.look, SX.putS, SX.gobs, SX.AllP, SX.leave, SX.lookC, SX.lookB, SX.lookT, SX.lookN, SX.findK, SX.evBuiltin, SX.ints, SX.foldI, SX.evBin, SX.evInt, SX.evStr, SX.evEq, SX.arith, SX.evLoad, SX.shapeUp, SX.evFieldAddr, SX.evField, SX.evIndexAddr, SX.evIndex, SX.evFill, SX.evBuild, SX.szs, SX.cellsV, SX.evNew, SX.evStore, SX.spliceL, SX.SV.cells, SX.evConv, SX.evSlice, SX.bnd, SX.evNil, SX.evUn, SX.evPick, SX.pickOpd, SX.popTo, SX.cnd, SX.env0, SX.TD.isAgg, SX.TD.isIface, SX.tails, SX.NotAgg, SX.evLookup, SX.evConvH, SX.evPtrEq, SX.isCells, SX.thaw, SX.frz, SX.fixB, SX.rootIx, SX.Froz, SX.frzStep, SX.fork, Go.Value.cells, Go.undef, cfg4, d0']
      refine ⟨by (unfold SX.Ob; first | trivial | omega | ((try simp only [SX.inK]); (try simp [SX.den, SX.IsU8, SX.AllP, *]); (try omega))), ?_⟩
      intro a12 w12 hr12' ht12
      have hr12 := h11.unbase hr12'
      have hS12 := hS11.keep (by simpa [mutB] using hr12'.keeps.toBelow)
      have z12 : w.heap.size ≤ w12.heap.size := hr12.keeps.size
      have zz12 : w11.heap.size ≤ w12.heap.size := (show Below w11.heap.size w11 w12 by simpa [mutB] using hr12'.keeps.toBelow).size
      refine post_callD 9 [.v (.int .i64 o.n)] hr12 rfl (wanted_none rfl) rfl (callable 9 Try.func9) (text_ok w12 o.n i4) ?_
      rintro e13 w13 ⟨tb, rfl, htb, hB13, hb13⟩
      have ht13 := HpRep_below ht12 hb13
      refine ⟨_, rfl, ht13, ?_⟩
      have h13 := hr12.ret hb13 43 (.v (.slice (some ⟨tb, 0, none⟩) 16 16)) rfl _ (hr12.all.below hb13) (by simp) rfl
      by_cases hbad : o.lba < 0 ∨ o.ver < 0
      · refine post_callD 8 [.v (.pointer (some ⟨c, 0, none⟩)), .v (.int .i64 o.lba), .v (.int .i64 o.ver), .v (.slice (some ⟨tb, 0, none⟩) 16 16)] h13 rfl (wanted_none rfl) rfl (callable 8 Try.func8) (put_bad w13 c o.lba o.ver _ 16 16 hbad) ?_
        rintro e14 w14 ⟨rfl, hb14⟩
        have ht14 := HpRep_below ht13 hb14
        refine ⟨_, rfl, ht14, ?_⟩
        have h14 := h13.ret hb14 44 (.v (.int .i64 1)) rfl _ (h13.all.below hb14) (by simp) rfl
        refine seg cfg4_ok mixed PanicFree.body 1000 [false] [] h14.rebase (by first | trivial | exact HpRep.nil | assumption) (by kernel_rfl) fun s_ hs_ => ?_
        simp (maxSteps := 10000000) [SX.vc, SX.stop, SX.contS, SX.contB, SX.contW, SX.contR, SX.contD, SX.sxStep, SX.stepPure, SX.stepNew, SX.stepStore, SX.stepKeep, SX.guardIx, SX.evOp, SX.opd, SX.opds, SX.optOpd, SX.look, SX.putS, SX.gobs, SX.AllP, SX.leave, SX.lookC, SX.lookB, SX.lookT, SX.lookN, SX.findK, SX.evBuiltin, SX.ints, SX.foldI, SX.evBin, SX.evInt, SX.evStr, SX.evEq, SX.arith, SX.evLoad, SX.shapeUp, SX.evFieldAddr, SX.evField, SX.evIndexAddr, SX.evIndex, SX.evFill, SX.evBuild, SX.szs, SX.cellsV, SX.evNew, SX.evStore, SX.spliceL, SX.SV.cells, SX.evConv, SX.evSlice, SX.bnd, SX.evNil, SX.evUn, SX.evPick, SX.pickOpd, SX.popTo, SX.cnd, SX.env0, SX.TD.isAgg, SX.TD.isIface, SX.tails, SX.NotAgg, SX.evLookup, SX.evConvH, SX.evPtrEq, SX.isCells, SX.thaw, SX.frz, SX.fixB, SX.rootIx, SX.Froz, SX.frzStep, SX.fork, Go.Value.cells, Go.undef, cfg4]
        refine ⟨by (unfold SX.Ob; first | trivial | omega | ((try simp only [SX.inK]); (try simp [SX.den, SX.IsU8, SX.AllP, *]); (try omega))), ?_⟩
        intro a15 w15 hr15' _
        have hr15 := h14.unbase hr15'
        have hS15 := ((hS12.keep hb13).keep hb14).keep (by simpa [mutB] using hr15'.keeps.toBelow)
        exact post_inv ⟨es, clk, mL, A, hits, fails, hKM, hLI, by omega, by omega, by omega, hS15.mono fun y _ h => h.1, hr15.re (by simp [envTo, SX.look, den]) ⟨⟨hr15.all.1.1, fun _ => .inl lbm, by simp⟩, trivial⟩ rfl rfl⟩
      have hl0 : 0 ≤ o.lba := by omega
      have hv0 : 0 ≤ o.ver := by omega
      refine post_callD 8 [.v (.pointer (some ⟨c, 0, none⟩)), .v (.int .i64 o.lba), .v (.int .i64 o.ver), .v (.slice (some ⟨tb, 0, none⟩) 16 16)] h13 rfl (wanted_none rfl) rfl (callable 8 Try.func8) (put_fresh hS12 hb13 (fun y hy => ⟨⟨by omega, by omega⟩, by omega⟩) ⟨o.lba, o.ver, tx o.n⟩ hl0 hv0 tb 16 htb ⟨5, hB13⟩) ?_
      rintro e14 w14 ⟨rfl, hc14, hS14⟩
      have hH : ∀ e ∈ [(bm, false, SO.obj (.map es clk)), (b, false, SO.any), (sO, false, SO.cells [.v (.int .i64 o.d), .v (.int .i64 o.lba), .v (.int .i64 o.ver), .v (.int .i64 o.n), .v (.bool o.lg)] 40)], ¬ ((w.heap.size ≤ e.1 ∧ e.1 ≠ bm) ∧ e.1 ≠ sO) := by
        intro e he
        simp at he
        rcases he with rfl | rfl | rfl <;> simp
        omega
      have ht14 := HpRep.cha ht13 hc14 (by
        intro e he
        simp [thaw] at he
        rcases he with rfl | rfl | rfl <;> simp
        omega)
      refine ⟨_, rfl, ht14, ?_⟩
      have h14 := h13.retC hc14 (fun _ h => h.1.1) 44 (.v (.int .i64 0)) rfl _ (HpAll.cha hc14 h13.all hH) (by simp) rfl
      obtain ⟨A', hA'⟩ : ∃ A', putL mm A ⟨o.lba, o.ver, tx o.n⟩ = A' := ⟨_, rfl⟩
      rw [hA'] at hS14
      refine seg cfg4_ok mixed PanicFree.body 1000 [true] [] h14.rebase (by first | trivial | exact HpRep.nil | assumption) (by kernel_rfl) fun s_ hs_ => ?_
      simp (maxSteps := 10000000) [SX.vc, SX.stop, SX.contS, SX.contB, SX.contW, SX.contR, SX.contD, SX.sxStep, SX.stepPure, SX.stepNew, SX.stepStore, SX.stepKeep, SX.guardIx, SX.evOp, SX.opd, SX.opds, SX.optOpd, SX.look, SX.putS, SX.gobs, SX.AllP, SX.leave, SX.lookC, SX.lookB, SX.lookT, SX.lookN, SX.findK, SX.evBuiltin, SX.ints, SX.foldI, SX.evBin, SX.evInt, SX.evStr, SX.evEq, SX.arith, SX.evLoad, SX.shapeUp, SX.evFieldAddr, SX.evField, SX.evIndexAddr, SX.evIndex, SX.evFill, SX.evBuild, SX.szs, SX.cellsV, SX.evNew, SX.evStore, SX.spliceL, SX.SV.cells, SX.evConv, SX.evSlice, SX.bnd, SX.evNil, SX.evUn, SX.evPick, SX.pickOpd, SX.popTo, SX.cnd, SX.env0, SX.TD.isAgg, SX.TD.isIface, SX.tails, SX.NotAgg, SX.evLookup, SX.evConvH, SX.evPtrEq, SX.isCells, SX.thaw, SX.frz, SX.fixB, SX.rootIx, SX.Froz, SX.frzStep, SX.fork, Go.Value.cells, Go.undef, cfg4]
      refine ⟨by (unfold SX.Ob; first | trivial | omega | ((try simp only [SX.inK]); (try simp [SX.den, SX.IsU8, SX.AllP, *]); (try omega))), ?_⟩
      intro a15 w15 hr15' _
      have hr15 := h14.unbase hr15'
      have hS15 := hS14.keep (by simpa [mutB] using hr15'.keeps.toBelow)
      have z15 : w.heap.size ≤ w15.heap.size := hr15.keeps.size
      have hA15 := hr15.all
      have lbm15 := SO.rep_lt hA15.1.1
      have lb15 := SO.rep_lt hA15.2.1.1
      have lsO15 := SO.rep_lt hA15.2.2.1.1
      refine post_rangeP (kt := 41) (et := 9) hr15 (wanted_none rfl) rfl (by simp) rfl rfl rfl Try.underlying38 rfl _ (fun w' r hr1 hr2 hr3 => HpAll.append (hA15.below hr2) hr3 (fun _ => .inl (by show w.heap.size ≤ r; omega)) (by
        intro e he
        simp at he
        rcases he with rfl | rfl | rfl <;> simp <;> omega)) fun a16 w16 r lr hb16 hit16 hr16 => ?_
      have lr16 := lt_of_heap hit16
      have hS16 := (hS15.mono (P' := fun y => ((w.heap.size ≤ y ∧ y ≠ bm) ∧ y ≠ sO) ∧ y ≠ r) fun y h1 h2 => ⟨h2, by omega⟩).keep hb16
      obtain ⟨hent, hnd, hfull⟩ := hKM.entries
      refine seg cfg4_ok mixed PanicFree.body 1000 [] [] hr16.rebase (by first | trivial | exact HpRep.nil | assumption) (by kernel_rfl) fun s_ hs_ => ?_
      simp (maxSteps := 10000000) [SX.vc, SX.stop, SX.contS, SX.contB, SX.contW, SX.contR, SX.contD, SX.sxStep, SX.stepPure, SX.stepNew, SX.stepStore, SX.stepKeep, SX.guardIx, SX.evOp, SX.opd, SX.opds, SX.optOpd, SX.look, SX.putS, SX.gobs, SX.AllP, SX.leave, SX.lookC, SX.lookB, SX.lookT, SX.lookN, SX.findK, SX.evBuiltin, SX.ints, SX.foldI, SX.evBin, SX.evInt, SX.evStr, SX.evEq, SX.arith, SX.evLoad, SX.shapeUp, SX.evFieldAddr, SX.evField, SX.evIndexAddr, SX.evIndex, SX.evFill, SX.evBuild, SX.szs, SX.cellsV, SX.evNew, SX.evStore, SX.spliceL, SX.SV.cells, SX.evConv, SX.evSlice, SX.bnd, SX.evNil, SX.evUn, SX.evPick, SX.pickOpd, SX.popTo, SX.cnd, SX.env0, SX.TD.isAgg, SX.TD.isIface, SX.tails, SX.NotAgg, SX.evLookup, SX.evConvH, SX.evPtrEq, SX.isCells, SX.thaw, SX.frz, SX.fixB, SX.rootIx, SX.Froz, SX.frzStep, SX.fork, Go.Value.cells, Go.undef, cfg4]
      refine ⟨by (unfold SX.Ob; first | trivial | omega | ((try simp only [SX.inK]); (try simp [SX.den, SX.IsU8, SX.AllP, *]); (try omega))), ?_⟩
      intro a17 w17 hr17' _
      have hr17 := hr16.unbase hr17'
      have hnc : ∀ (w' : World) (o' : Obj), w'.heap[r]? = some o' → (∀ c u fz, o' ≠ .cells c u fz) → ∀ y ∈ [r], ¬ (((w.heap.size ≤ y ∧ y ≠ bm) ∧ y ≠ sO) ∧ y ≠ r) ∧ ∀ c u fz, w'.heap[y]? ≠ some (.cells c u fz) := by
        intro w' o' h1 h2 y hy
        simp only [List.mem_singleton] at hy
        subst hy
        exact ⟨by simp, fun c u fz h => by rw [h1] at h; exact h2 _ _ _ (Option.some.inj h)⟩
      have hS17 := hS16.keepM (M := [r]) hr17'.keeps (hnc w16 _ hit16 (by simp))
      refine post_loop (NwLoop w ops (.slice (some ⟨b, o0, none⟩) ops.length cp) x c bm mm k o b sO es clk mL A' hits fails r) (leftOf es #[]).size ⟨#[], clk, false, rfl, Nat.le_refl _, by simp, by simp, hS17, hr17.re (by simp [envTo, SX.look, den]) hr17.all rfl rfl⟩ ?_
      clear hr17 hr17' hr16 hS16 hS17 hr15 hr15' hS15 hS14 h14 ht14 hH h13 ht13 hr12 hr12' ht12 hS12 h11 hS11
      rintro m a18 w18 ⟨seen, c0, nw, rfl, hc0, hn1, hn2, hS18, hr18⟩
      have hit18 : w18.heap[r]? = some (.mapIter (some bm) clk seen c0) := hr18.hp 3 r true _ rfl
      have z18 : w.heap.size ≤ w18.heap.size := hr18.keeps.size
      have lr18 := lt_of_heap hit18
      have lbm18 := SO.rep_lt hr18.all.1.1
      have lb18 := SO.rep_lt hr18.all.2.1.1
      have lsO18 := SO.rep_lt hr18.all.2.2.1.1
      refine seg cfg4_ok mixed PanicFree.body 1000 [] [] hr18.rebase (by first | trivial | exact HpRep.nil | assumption) (by kernel_rfl) fun s_ hs_ => ?_
      simp (maxSteps := 10000000) [SX.vc, SX.stop, SX.contS, SX.contB, SX.contW, SX.contR, SX.contD, SX.sxStep, SX.stepPure, SX.stepNew, SX.stepStore, SX.stepKeep, SX.guardIx, SX.evOp, SX.opd, SX.opds, SX.optOpd, SX.look, SX.putS, SX.gobs, SX.AllP, SX.leave, SX.lookC, SX.lookB, SX.lookT, SX.lookN, SX.findK, SX.evBuiltin, SX.ints, SX.foldI, SX.evBin, SX.evInt, SX.evStr, SX.evEq, SX.arith, SX.evLoad, SX.shapeUp, SX.evFieldAddr, SX.evField, SX.evIndexAddr, SX.evIndex, SX.evFill, SX.evBuild, SX.szs, SX.cellsV, SX.evNew, SX.evStore, SX.spliceL, SX.SV.cells, SX.evConv, SX.evSlice, SX.bnd, SX.evNil, SX.evUn, SX.evPick, SX.pickOpd, SX.popTo, SX.cnd, SX.env0, SX.TD.isAgg, SX.TD.isIface, SX.tails, SX.NotAgg, SX.evLookup, SX.evConvH, SX.evPtrEq, SX.isCells, SX.thaw, SX.frz, SX.fixB, SX.rootIx, SX.Froz, SX.frzStep, SX.fork, Go.Value.cells, Go.undef, cfg4]
      refine ⟨by (unfold SX.Ob; first | trivial | omega | ((try simp only [SX.inK]); (try simp [SX.den, SX.IsU8, SX.AllP, *]); (try omega))), ?_⟩
      intro a19 w19 hr19' _
      have hr19 := hr18.unbase hr19'
      have hS19 := hS18.keepM (M := [r]) hr19'.keeps (hnc w18 _ hit18 (by simp))
      have hit19 : w19.heap[r]? = some (.mapIter (some bm) clk seen c0) := hr19.hp 3 r true _ rfl
      have z19 : (frameAt w18 ([] : Hp)).w0.heap.size ≤ w19.heap.size := hr19'.keeps.size
      simp only [frameAt] at z19
      have hcase : (putL mm A ⟨o.lba, o.ver, tx o.n⟩ = A ∧ ∃ p v, mL p = some v ∧ newerC A' o.lba o.ver p) ∨ (LI mm A' (updK mL (o.lba, o.ver) (strT (tx o.n))) ∧ ∀ p, ¬ newerC A' o.lba o.ver p) := by
        by_cases hold : ∃ y, findL o.lba A = some y ∧ o.ver < y.ver
        · obtain ⟨y, h1, h2⟩ := hold
          have := hLI.putOld (t := ⟨o.lba, o.ver, tx o.n⟩) h1 h2
          rw [hA'] at this
          exact .inl ⟨hA'.trans this.1, this.2⟩
        · right
          have := hLI.putNew (t := ⟨o.lba, o.ver, tx o.n⟩) hmm0 (fun y hy => by
            refine Classical.byContradiction fun h => hold ⟨y, hy, by simpa using h⟩) ⟨hl0, by unfold inK at i2; exact i2.2⟩
          rw [hA'] at this
          exact this
      have hlen' : A'.length ≤ k + 1 := by
        have h1 : (putL mm A ⟨o.lba, o.ver, tx o.n⟩).length ≤ A.length + 1 := by
          have ht : ∀ l : List It, (trimL mm l).length ≤ l.length := fun l => by
            unfold trimL
            split
            · rw [List.length_dropLast]; omega
            · omega
          unfold putL
          split
          · exact Nat.le_trans (ht _) (by simp)
          · split
            · omega
            · refine Nat.le_trans (ht _) ?_
              have : (othersL o.lba A).length ≤ A.length := List.length_filter_le _ _
              simpa using this
        rw [hA'] at h1
        omega
      refine post_nextP (j := 0) (i := 3) hr19 (wanted_none rfl) rfl (by simp) rfl rfl rfl rfl rfl (fun e he => (hent e he).1) hc0 (fun a20 hall hr20 => ?_) (fun a20 w20 e he hne hlt20 hk20 hr20 => ?_)
      · rcases hnw : nw with _ | _
        · subst hnw
          have hnew : LI mm A' (updK mL (o.lba, o.ver) (strT (tx o.n))) := by
            rcases hcase with ⟨_, p, v, hp, hnc'⟩ | h
            · obtain ⟨e, he, hek, _⟩ := hfull p v hp
              exact absurd hnc' (hn2 rfl e he (hall e he) p hek)
            · exact h.1
          have hA20 := hr20.all
          have h20 := hr20.see [(bm, true, .obj (.map es clk)), (b, false, .any), (sO, false, .cells [.v (.int .i64 o.d), .v (.int .i64 o.lba), .v (.int .i64 o.ver), .v (.int .i64 o.n), .v (.bool o.lg)] 40)] ⟨⟨hA20.1.1, fun _ => .inl lbm, by simp; omega⟩, ⟨hA20.2.1.1, by simp, by simp; omega⟩, HpAll.one hA20.2.2.1.1⟩
          have hbmc : ∀ (w' : World) (o' : Obj), w'.heap[bm]? = some o' → (∀ c u fz, o' ≠ .cells c u fz) → ∀ y ∈ [bm], ¬ (((w.heap.size ≤ y ∧ y ≠ bm) ∧ y ≠ sO) ∧ y ≠ r) ∧ ∀ c u fz, w'.heap[y]? ≠ some (.cells c u fz) := by
            intro w' o' h1 h2 y hy
            simp only [List.mem_singleton] at hy
            subst hy
            exact ⟨by simp, fun c u fz h => by rw [h1] at h; exact h2 _ _ _ (Option.some.inj h)⟩
          refine seg cfg4_ok mixed PanicFree.body 1000 [false, true] [] h20.rebase (by first | trivial | exact HpRep.nil | assumption) (by kernel_rfl) fun s_ hs_ => ?_
          simp (maxSteps := 10000000) [SX.vc, SX.stop, SX.contS, SX.contB, SX.contW, SX.contR, SX.contD, SX.sxStep, SX.stepPure, SX.stepNew, SX.stepStore, SX.stepKeep, SX.guardIx, SX.evOp, SX.opd, SX.opds, SX.optOpd, SX.look, SX.putS, SX.gobs, SX.AllP, SX.leave, SX.lookC, SX.lookB, SX.lookT, SX.lookN, SX.findK, SX.evBuiltin, SX.ints, SX.foldI, SX.evBin, SX.evInt, SX.evStr, SX.evEq, SX.arith, SX.evLoad, SX.shapeUp, SX.evFieldAddr, SX.evField, SX.evIndexAddr, SX.evIndex, SX.evFill, SX.evBuild, SX.szs, SX.cellsV, SX.evNew, SX.evStore, SX.spliceL, SX.SV.cells, SX.evConv, SX.evSlice, SX.bnd, SX.evNil, SX.evUn, SX.evPick, SX.pickOpd, SX.popTo, SX.cnd, SX.env0, SX.TD.isAgg, SX.TD.isIface, SX.tails, SX.NotAgg, SX.evLookup, SX.evConvH, SX.evPtrEq, SX.isCells, SX.thaw, SX.frz, SX.fixB, SX.rootIx, SX.Froz, SX.frzStep, SX.fork, Go.Value.cells, Go.undef, cfg4]
          refine ⟨by (unfold SX.Ob; first | trivial | omega | ((try simp only [SX.inK]); (try simp [SX.den, SX.IsU8, SX.AllP, *]); (try omega))), ?_⟩
          intro a21 w21 hr21' ht21
          have hr21 := h20.unbase hr21'
          have hS21 := hS19.keepM (M := [bm]) hr21'.keeps (hbmc w19 _ hA20.1.1 (by simp))
          have z21 : (frameAt w19 ([] : Hp)).w0.heap.size ≤ w21.heap.size := hr21'.keeps.size
          simp only [frameAt] at z21
          refine post_callD 9 [.v (.int .i64 o.n)] hr21 rfl (wanted_none rfl) rfl (callable 9 Try.func9) (text_ok w21 o.n i4) ?_
          rintro e22 w22 ⟨tb2, rfl, htb2, hB22, hb22⟩
          have ht22 := HpRep_below ht21 hb22
          refine ⟨_, rfl, ht22, ?_⟩
          have h22 := hr21.ret hb22 82 (.sl 3 tb2 0 0 16 16 1) rfl [(bm, true, .obj (.map es clk)), (b, false, .any), (sO, false, .cells [.v (.int .i64 o.d), .v (.int .i64 o.lba), .v (.int .i64 o.ver), .v (.int .i64 o.n), .v (.bool o.lg)] 40), (tb2, false, .arr 0 16 (fun j => [.v (.int .u8 (tx o.n j))]) 1 5 (0, 0))] (HpAll.append (hr21.all.below hb22) hB22 (by simp) (by
            intro e he
            simp at he
            rcases he with rfl | rfl | rfl <;> simp <;> omega)) (by simp) rfl
          have hS22 := hS21.keep hb22
          have hbm22 := (hr21.all.below hb22).1.1
          refine seg cfg4_ok mixed PanicFree.body 1000 [] [] h22.rebase (by first | trivial | exact HpRep.nil | assumption) (by kernel_rfl) fun s_ hs_ => ?_
          simp (maxSteps := 10000000) [SX.vc, SX.stop, SX.contS, SX.contB, SX.contW, SX.contR, SX.contD, SX.sxStep, SX.stepPure, SX.stepNew, SX.stepStore, SX.stepKeep, SX.guardIx, SX.evOp, SX.opd, SX.opds, SX.optOpd, SX.look, SX.putS, SX.gobs, SX.AllP, SX.leave, SX.lookC, SX.lookB, SX.lookT, SX.lookN, SX.findK, SX.evBuiltin, SX.ints, SX.foldI, SX.evBin, SX.evInt, SX.evStr, SX.evEq, SX.arith, SX.evLoad, SX.shapeUp, SX.evFieldAddr, SX.evField, SX.evIndexAddr, SX.evIndex, SX.evFill, SX.evBuild, SX.szs, SX.cellsV, SX.evNew, SX.evStore, SX.spliceL, SX.SV.cells, SX.evConv, SX.evSlice, SX.bnd, SX.evNil, SX.evUn, SX.evPick, SX.pickOpd, SX.popTo, SX.cnd, SX.env0, SX.TD.isAgg, SX.TD.isIface, SX.tails, SX.NotAgg, SX.evLookup, SX.evConvH, SX.evPtrEq, SX.isCells, SX.thaw, SX.frz, SX.fixB, SX.rootIx, SX.Froz, SX.frzStep, SX.fork, Go.Value.cells, Go.undef, cfg4]
          refine ⟨by (unfold SX.Ob; first | trivial | omega | ((try simp only [SX.inK]); (try simp [SX.den, SX.IsU8, SX.AllP, *]); (try omega))), ?_⟩
          intro a23 w23 hr23' ht23
          have hr23 := h22.unbase hr23'
          have hS23 := hS22.keepM (M := [bm]) hr23'.keeps (hbmc w22 _ hbm22 (by simp))
          have hbm23 := hr23.all.1.1
          refine post_updD3 (kv := kv2) (G := In2) (k := (o.lba, o.ver)) hr23 rfl rfl rfl rfl rfl rfl (by simp [kv2, den, denL]) (x := .v (strT (tx o.n))) rfl pair41 Try.underlying38 rfl hKM ⟨i2, i3⟩ rfl (by first | exact frz_thaw _ | rfl | simp [frz]) fun a24 w24 es1 clk1 hKM1 hk24 hr24 => ?_
          have hS24 := hS23.keepM (M := [bm]) hk24 (hbmc w23 _ hbm23 (by simp))
          have hbm24 := hr24.all.1.1
          refine seg cfg4_ok mixed PanicFree.body 1000 [] [] hr24.rebase (by first | trivial | exact HpRep.nil | assumption) (by kernel_rfl) fun s_ hs_ => ?_
          simp (maxSteps := 10000000) [SX.vc, SX.stop, SX.contS, SX.contB, SX.contW, SX.contR, SX.contD, SX.sxStep, SX.stepPure, SX.stepNew, SX.stepStore, SX.stepKeep, SX.guardIx, SX.evOp, SX.opd, SX.opds, SX.optOpd, SX.look, SX.putS, SX.gobs, SX.AllP, SX.leave, SX.lookC, SX.lookB, SX.lookT, SX.lookN, SX.findK, SX.evBuiltin, SX.ints, SX.foldI, SX.evBin, SX.evInt, SX.evStr, SX.evEq, SX.arith, SX.evLoad, SX.shapeUp, SX.evFieldAddr, SX.evField, SX.evIndexAddr, SX.evIndex, SX.evFill, SX.evBuild, SX.szs, SX.cellsV, SX.evNew, SX.evStore, SX.spliceL, SX.SV.cells, SX.evConv, SX.evSlice, SX.bnd, SX.evNil, SX.evUn, SX.evPick, SX.pickOpd, SX.popTo, SX.cnd, SX.env0, SX.TD.isAgg, SX.TD.isIface, SX.tails, SX.NotAgg, SX.evLookup, SX.evConvH, SX.evPtrEq, SX.isCells, SX.thaw, SX.frz, SX.fixB, SX.rootIx, SX.Froz, SX.frzStep, SX.fork, Go.Value.cells, Go.undef, cfg4]
          refine ⟨by (unfold SX.Ob; first | trivial | omega | ((try simp only [SX.inK]); (try simp [SX.den, SX.IsU8, SX.AllP, *]); (try omega))), ?_⟩
          intro a25 w25 hr25' _
          have hr25 := hr24.unbase hr25'
          have hS25 := hS24.keepM (M := [bm]) hr25'.keeps (hbmc w24 _ hbm24 (by simp))
          exact post_inv ⟨es1, clk1, _, A', hits, fails, hKM1, hnew, hlen', by omega, by omega, hS25.mono fun y _ h => h.1.1, hr25.re (by simp [envTo, SX.look, den]) ⟨⟨hr25.all.1.1, fun _ => .inl lbm, by simp⟩, trivial⟩ rfl rfl⟩
        · subst hnw
          obtain ⟨p, v, hp, hpc⟩ := hn1 rfl
          have hAA : A' = A := by
            rcases hcase with ⟨h, _⟩ | ⟨_, h⟩
            · exact hA'.symm.trans h
            · exact absurd hpc (h p)
          refine seg cfg4_ok mixed PanicFree.body 1000 [false, false] [] hr20.rebase (by first | trivial | exact HpRep.nil | assumption) (by kernel_rfl) fun s_ hs_ => ?_
          simp (maxSteps := 10000000) [SX.vc, SX.stop, SX.contS, SX.contB, SX.contW, SX.contR, SX.contD, SX.sxStep, SX.stepPure, SX.stepNew, SX.stepStore, SX.stepKeep, SX.guardIx, SX.evOp, SX.opd, SX.opds, SX.optOpd, SX.look, SX.putS, SX.gobs, SX.AllP, SX.leave, SX.lookC, SX.lookB, SX.lookT, SX.lookN, SX.findK, SX.evBuiltin, SX.ints, SX.foldI, SX.evBin, SX.evInt, SX.evStr, SX.evEq, SX.arith, SX.evLoad, SX.shapeUp, SX.evFieldAddr, SX.evField, SX.evIndexAddr, SX.evIndex, SX.evFill, SX.evBuild, SX.szs, SX.cellsV, SX.evNew, SX.evStore, SX.spliceL, SX.SV.cells, SX.evConv, SX.evSlice, SX.bnd, SX.evNil, SX.evUn, SX.evPick, SX.pickOpd, SX.popTo, SX.cnd, SX.env0, SX.TD.isAgg, SX.TD.isIface, SX.tails, SX.NotAgg, SX.evLookup, SX.evConvH, SX.evPtrEq, SX.isCells, SX.thaw, SX.frz, SX.fixB, SX.rootIx, SX.Froz, SX.frzStep, SX.fork, Go.Value.cells, Go.undef, cfg4]
          refine ⟨by (unfold SX.Ob; first | trivial | omega | ((try simp only [SX.inK]); (try simp [SX.den, SX.IsU8, SX.AllP, *]); (try omega))), ?_⟩
          intro a21 w21 hr21' _
          have hr21 := hr20.unbase hr21'
          have hS21 := hS19.keepM (M := [r]) hr21'.keeps (hnc w19 _ hit19 (by simp))
          exact post_inv ⟨es, clk, mL, A', hits, fails, hKM, hAA ▸ hLI, hlen', by omega, by omega, hS21.mono fun y _ h => h.1.1, hr21.re (by simp [envTo, SX.look, den]) ⟨⟨hr21.all.1.1, fun _ => .inl lbm, by simp⟩, trivial⟩ rfl rfl⟩
      · have hS20 := hS19.keepM (M := [r]) hk20 (hnc w19 _ hit19 (by simp))
        have hit20 : w20.heap[r]? = some (.mapIter (some bm) clk (seen.push e.born) clk) := hr20.hp 3 r true _ rfl
        obtain ⟨p, hGp, hep, hmp⟩ := (hent e he).2
        refine seg cfg4_ok mixed PanicFree.body 1000 [true] [] hr20.rebase (by first | trivial | exact HpRep.nil | assumption) (by kernel_rfl) fun s_ hs_ => ?_
        simp (maxSteps := 10000000) [SX.vc, SX.stop, SX.contS, SX.contB, SX.contW, SX.contR, SX.contD, SX.sxStep, SX.stepPure, SX.stepNew, SX.stepStore, SX.stepKeep, SX.guardIx, SX.evOp, SX.opd, SX.opds, SX.optOpd, SX.look, SX.putS, SX.gobs, SX.AllP, SX.leave, SX.lookC, SX.lookB, SX.lookT, SX.lookN, SX.findK, SX.evBuiltin, SX.ints, SX.foldI, SX.evBin, SX.evInt, SX.evStr, SX.evEq, SX.arith, SX.evLoad, SX.shapeUp, SX.evFieldAddr, SX.evField, SX.evIndexAddr, SX.evIndex, SX.evFill, SX.evBuild, SX.szs, SX.cellsV, SX.evNew, SX.evStore, SX.spliceL, SX.SV.cells, SX.evConv, SX.evSlice, SX.bnd, SX.evNil, SX.evUn, SX.evPick, SX.pickOpd, SX.popTo, SX.cnd, SX.env0, SX.TD.isAgg, SX.TD.isIface, SX.tails, SX.NotAgg, SX.evLookup, SX.evConvH, SX.evPtrEq, SX.isCells, SX.thaw, SX.frz, SX.fixB, SX.rootIx, SX.Froz, SX.frzStep, SX.fork, Go.Value.cells, Go.undef, cfg4]
        refine ⟨by (unfold SX.Ob; first | trivial | omega | ((try simp only [SX.inK]); (try simp [SX.den, SX.IsU8, SX.AllP, *]); (try omega))), ?_⟩
        intro a21 w21 hr21' _
        have hr21 := hr20.unbase hr21'
        have hS21 := hS20.keepM (M := [r]) hr21'.keeps (hnc w20 _ hit20 (by simp))
        have hit21 : w21.heap[r]? = some (.mapIter (some bm) clk (seen.push e.born) clk) := hr21.hp 3 r true _ rfl
        refine post_entryP (j := 0) (i := 3) hr21 (wanted_none rfl) rfl (by simp) rfl rfl rfl rfl rfl he hnd (y := .ag (keyC p)) (z := .v e.val) (by rw [hep]; simp [den, denL, keyC, kv2]) rfl fun a22 hr22 => ?_
        have hpin : ∀ q, e.key = kv2 q → q = p := fun q hq => pair41.inj _ _ (hq.symm.trans hep)
        have hstep : ∀ nw', nw' = false → nw = false → ¬ newerC A' o.lba o.ver p → (nw' = false → ∀ e' ∈ es.toList, (seen.push e.born).contains e'.born = true → ∀ q, e'.key = kv2 q → ¬ newerC A' o.lba o.ver q) := by
          intro nw' _ h2 h3 _ e' he' hce q hq
          rw [contains_push] at hce
          rcases Bool.or_eq_true_iff.1 hce with h | h
          · exact hn2 h2 e' he' h q hq
          · have hbe : e'.born = e.born := by simpa using h
            obtain rfl := born_inj hnd he' he hbe
            rw [hpin q hq]; exact h3
        have lr20 : w.heap.size ≤ r := by omega
        rcases hnw : nw with _ | _
        rotate_left
        · subst hnw
          refine seg cfg4_ok mixed PanicFree.body 1000 [] [(53, true)] hr22.rebase (by first | trivial | exact HpRep.nil | assumption) (by kernel_rfl) fun s_ hs_ => ?_
          simp (maxSteps := 10000000) [SX.vc, SX.stop, SX.contS, SX.contB, SX.contW, SX.contR, SX.contD, SX.sxStep, SX.stepPure, SX.stepNew, SX.stepStore, SX.stepKeep, SX.guardIx, SX.evOp, SX.opd, SX.opds, SX.optOpd, SX.look, SX.putS, SX.gobs, SX.AllP, SX.leave, SX.lookC, SX.lookB, SX.lookT, SX.lookN, SX.findK, SX.evBuiltin, SX.ints, SX.foldI, SX.evBin, SX.evInt, SX.evStr, SX.evEq, SX.arith, SX.evLoad, SX.shapeUp, SX.evFieldAddr, SX.evField, SX.evIndexAddr, SX.evIndex, SX.evFill, SX.evBuild, SX.szs, SX.cellsV, SX.evNew, SX.evStore, SX.spliceL, SX.SV.cells, SX.evConv, SX.evSlice, SX.bnd, SX.evNil, SX.evUn, SX.evPick, SX.pickOpd, SX.popTo, SX.cnd, SX.env0, SX.TD.isAgg, SX.TD.isIface, SX.tails, SX.NotAgg, SX.evLookup, SX.evConvH, SX.evPtrEq, SX.isCells, SX.thaw, SX.frz, SX.fixB, SX.rootIx, SX.Froz, SX.frzStep, SX.fork, Go.Value.cells, Go.undef, cfg4, keyC]
          refine ⟨by (unfold SX.Ob; first | trivial | omega | ((try simp only [SX.inK]); (try simp [SX.den, SX.IsU8, SX.AllP, *]); (try omega))), ?_⟩
          intro a23 w23 hr23' _
          have hr23 := hr22.unbase hr23'
          have hS23 := hS21.keepM (M := [r]) hr23'.keeps (hnc w21 _ hit21 (by simp))
          exact post_rnd _ hlt20 ⟨seen.push e.born, clk, true, rfl, Nat.le_refl _, hn1, by simp, hS23, hr23.re (by simp [envTo, SX.look, den]) ⟨⟨hr23.all.1.1, by simp, by simp; omega⟩, ⟨hr23.all.2.1.1, by simp, by simp; omega⟩, ⟨hr23.all.2.2.1.1, by simp, by simp; omega⟩, ⟨hr23.all.2.2.2.1.1, fun _ => .inl (by show w.heap.size ≤ r; omega), by simp⟩, trivial⟩ rfl rfl⟩
        · subst hnw
          by_cases c1 : p.1 = o.lba
          rotate_left
          · have c1' : (p.1 == o.lba) = false := by simpa using c1
            refine seg cfg4_ok mixed PanicFree.body 1000 [] [(53, false), (59, false), (66, false)] hr22.rebase (by first | trivial | exact HpRep.nil | assumption) (by kernel_rfl) fun s_ hs_ => ?_
            simp (maxSteps := 10000000) [SX.vc, SX.stop, SX.contS, SX.contB, SX.contW, SX.contR, SX.contD, SX.sxStep, SX.stepPure, SX.stepNew, SX.stepStore, SX.stepKeep, SX.guardIx, SX.evOp, SX.opd, SX.opds, SX.optOpd, SX.look, SX.putS, SX.gobs, SX.AllP, SX.leave, SX.lookC, SX.lookB, SX.lookT, SX.lookN, SX.findK, SX.evBuiltin, SX.ints, SX.foldI, SX.evBin, SX.evInt, SX.evStr, SX.evEq, SX.arith, SX.evLoad, SX.shapeUp, SX.evFieldAddr, SX.evField, SX.evIndexAddr, SX.evIndex, SX.evFill, SX.evBuild, SX.szs, SX.cellsV, SX.evNew, SX.evStore, SX.spliceL, SX.SV.cells, SX.evConv, SX.evSlice, SX.bnd, SX.evNil, SX.evUn, SX.evPick, SX.pickOpd, SX.popTo, SX.cnd, SX.env0, SX.TD.isAgg, SX.TD.isIface, SX.tails, SX.NotAgg, SX.evLookup, SX.evConvH, SX.evPtrEq, SX.isCells, SX.thaw, SX.frz, SX.fixB, SX.rootIx, SX.Froz, SX.frzStep, SX.fork, Go.Value.cells, Go.undef, cfg4, keyC, c1']
            refine ⟨by (unfold SX.Ob; first | trivial | omega | ((try simp only [SX.inK]); (try simp [SX.den, SX.IsU8, SX.AllP, *]); (try omega))), ?_⟩
            intro a23 w23 hr23' _
            have hr23 := hr22.unbase hr23'
            have hS23 := hS21.keepM (M := [r]) hr23'.keeps (hnc w21 _ hit21 (by simp))
            exact post_rnd _ hlt20 ⟨seen.push e.born, clk, false, rfl, Nat.le_refl _, by simp, hstep false rfl rfl fun h => c1 h.1, hS23, hr23.re (by simp [envTo, SX.look, den]) ⟨⟨hr23.all.1.1, by simp, by simp; omega⟩, ⟨hr23.all.2.1.1, by simp, by simp; omega⟩, ⟨hr23.all.2.2.1.1, by simp, by simp; omega⟩, ⟨hr23.all.2.2.2.1.1, fun _ => .inl (by show w.heap.size ≤ r; omega), by simp⟩, trivial⟩ rfl rfl⟩
          have c1' : (p.1 == o.lba) = true := by simpa using c1
          by_cases c2 : o.ver < p.2
          rotate_left
          · refine seg cfg4_ok mixed PanicFree.body 1000 [] [(53, false), (59, true), (66, false)] hr22.rebase (by first | trivial | exact HpRep.nil | assumption) (by kernel_rfl) fun s_ hs_ => ?_
            simp (maxSteps := 10000000) [SX.vc, SX.stop, SX.contS, SX.contB, SX.contW, SX.contR, SX.contD, SX.sxStep, SX.stepPure, SX.stepNew, SX.stepStore, SX.stepKeep, SX.guardIx, SX.evOp, SX.opd, SX.opds, SX.optOpd, SX.look, SX.putS, SX.gobs, SX.AllP, SX.leave, SX.lookC, SX.lookB, SX.lookT, SX.lookN, SX.findK, SX.evBuiltin, SX.ints, SX.foldI, SX.evBin, SX.evInt, SX.evStr, SX.evEq, SX.arith, SX.evLoad, SX.shapeUp, SX.evFieldAddr, SX.evField, SX.evIndexAddr, SX.evIndex, SX.evFill, SX.evBuild, SX.szs, SX.cellsV, SX.evNew, SX.evStore, SX.spliceL, SX.SV.cells, SX.evConv, SX.evSlice, SX.bnd, SX.evNil, SX.evUn, SX.evPick, SX.pickOpd, SX.popTo, SX.cnd, SX.env0, SX.TD.isAgg, SX.TD.isIface, SX.tails, SX.NotAgg, SX.evLookup, SX.evConvH, SX.evPtrEq, SX.isCells, SX.thaw, SX.frz, SX.fixB, SX.rootIx, SX.Froz, SX.frzStep, SX.fork, Go.Value.cells, Go.undef, cfg4, keyC, c1', c2]
            refine ⟨by (unfold SX.Ob; first | trivial | omega | ((try simp only [SX.inK]); (try simp [SX.den, SX.IsU8, SX.AllP, *]); (try omega))), ?_⟩
            intro a23 w23 hr23' _
            have hr23 := hr22.unbase hr23'
            have hS23 := hS21.keepM (M := [r]) hr23'.keeps (hnc w21 _ hit21 (by simp))
            exact post_rnd _ hlt20 ⟨seen.push e.born, clk, false, rfl, Nat.le_refl _, by simp, hstep false rfl rfl fun h => c2 h.2.1, hS23, hr23.re (by simp [envTo, SX.look, den]) ⟨⟨hr23.all.1.1, by simp, by simp; omega⟩, ⟨hr23.all.2.1.1, by simp, by simp; omega⟩, ⟨hr23.all.2.2.1.1, by simp, by simp; omega⟩, ⟨hr23.all.2.2.2.1.1, fun _ => .inl (by show w.heap.size ≤ r; omega), by simp⟩, trivial⟩ rfl rfl⟩
          refine seg cfg4_ok mixed PanicFree.body 1000 [] [(53, false), (59, true), (66, true)] hr22.rebase (by first | trivial | exact HpRep.nil | assumption) (by kernel_rfl) fun s_ hs_ => ?_
          simp (maxSteps := 10000000) [SX.vc, SX.stop, SX.contS, SX.contB, SX.contW, SX.contR, SX.contD, SX.sxStep, SX.stepPure, SX.stepNew, SX.stepStore, SX.stepKeep, SX.guardIx, SX.evOp, SX.opd, SX.opds, SX.optOpd, SX.look, SX.putS, SX.gobs, SX.AllP, SX.leave, SX.lookC, SX.lookB, SX.lookT, SX.lookN, SX.findK, SX.evBuiltin, SX.ints, SX.foldI, SX.evBin, SX.evInt, SX.evStr, SX.evEq, SX.arith, SX.evLoad, SX.shapeUp, SX.evFieldAddr, SX.evField, SX.evIndexAddr, SX.evIndex, SX.evFill, SX.evBuild, SX.szs, SX.cellsV, SX.evNew, SX.evStore, SX.spliceL, SX.SV.cells, SX.evConv, SX.evSlice, SX.bnd, SX.evNil, SX.evUn, SX.evPick, SX.pickOpd, SX.popTo, SX.cnd, SX.env0, SX.TD.isAgg, SX.TD.isIface, SX.tails, SX.NotAgg, SX.evLookup, SX.evConvH, SX.evPtrEq, SX.isCells, SX.thaw, SX.frz, SX.fixB, SX.rootIx, SX.Froz, SX.frzStep, SX.fork, Go.Value.cells, Go.undef, cfg4, keyC, c1', c2]
          refine ⟨by (unfold SX.Ob; first | trivial | omega | ((try simp only [SX.inK]); (try simp [SX.den, SX.IsU8, SX.AllP, *]); (try omega))), ?_⟩
          intro a23 w23 hr23' _
          have hr23 := hr22.unbase hr23'
          have hS23 := hS21.keepM (M := [r]) hr23'.keeps (hnc w21 _ hit21 (by simp))
          refine post_call 14 [.v (.pointer (some ⟨c, 0, none⟩)), .ag (keyC p)] hr23 (by first | exact wanted_none rfl | exact wanted_zero (hr23.env.same rfl rfl rfl rfl) rfl (by simp)) rfl (callable 14 Try.func14) (there_ok _ w23 c mm hits fails A' hS23 (by omega) p) ?_
          rintro e24 w24 ⟨rfl, hb24⟩
          refine ⟨_, rfl, ?_⟩
          have hS24 := hS23.keep hb24
          have h24 := hr23.ret hb24 69 (.v (.bool (decide (hasKey A' p)))) rfl _ (hr23.all.below hb24) (by simp) rfl
          have hit24 : w24.heap[r]? = some (.mapIter (some bm) clk (seen.push e.born) clk) := h24.hp 3 r true _ rfl
          have hA24 := h24.all
          have h24b := h24.see [(bm, false, .obj (.map es clk)), (b, false, .any), (sO, false, .cells [.v (.int .i64 o.d), .v (.int .i64 o.lba), .v (.int .i64 o.ver), .v (.int .i64 o.n), .v (.bool o.lg)] 40), (r, true, .obj (.mapIter (some bm) clk (seen.push e.born) clk))] ⟨⟨hA24.1.1, by simp, by simp; omega⟩, ⟨hA24.2.1.1, by simp, by simp; omega⟩, ⟨hA24.2.2.1.1, by simp, by simp; omega⟩, ⟨hA24.2.2.2.1.1, fun _ => .inl lr20, by simp⟩, trivial⟩
          refine seg cfg4_ok mixed PanicFree.body 1000 [] [(53, false), (59, true), (66, true)] h24b.rebase (by first | trivial | exact HpRep.nil | assumption) (by kernel_rfl) fun s_ hs_ => ?_
          simp (maxSteps := 10000000) [SX.vc, SX.stop, SX.contS, SX.contB, SX.contW, SX.contR, SX.contD, SX.sxStep, SX.stepPure, SX.stepNew, SX.stepStore, SX.stepKeep, SX.guardIx, SX.evOp, SX.opd, SX.opds, SX.optOpd, SX.look, SX.putS, SX.gobs, SX.AllP, SX.leave, SX.lookC, SX.lookB, SX.lookT, SX.lookN, SX.findK, SX.evBuiltin, SX.ints, SX.foldI, SX.evBin, SX.evInt, SX.evStr, SX.evEq, SX.arith, SX.evLoad, SX.shapeUp, SX.evFieldAddr, SX.evField, SX.evIndexAddr, SX.evIndex, SX.evFill, SX.evBuild, SX.szs, SX.cellsV, SX.evNew, SX.evStore, SX.spliceL, SX.SV.cells, SX.evConv, SX.evSlice, SX.bnd, SX.evNil, SX.evUn, SX.evPick, SX.pickOpd, SX.popTo, SX.cnd, SX.env0, SX.TD.isAgg, SX.TD.isIface, SX.tails, SX.NotAgg, SX.evLookup, SX.evConvH, SX.evPtrEq, SX.isCells, SX.thaw, SX.frz, SX.fixB, SX.rootIx, SX.Froz, SX.frzStep, SX.fork, Go.Value.cells, Go.undef, cfg4]
          refine ⟨by (unfold SX.Ob; first | trivial | omega | ((try simp only [SX.inK]); (try simp [SX.den, SX.IsU8, SX.AllP, *]); (try omega))), ?_⟩
          intro a25 w25 hr25' _
          have hr25 := h24b.unbase hr25'
          have hS25 := hS24.keepM (M := [r]) hr25'.keeps (hnc w24 _ hit24 (by simp))
          exact post_rnd _ hlt20 ⟨seen.push e.born, clk, decide (hasKey A' p), rfl, Nat.le_refl _, fun h => ⟨p, _, hmp, c1, c2, of_decide_eq_true h⟩, fun h0 => hstep _ h0 rfl (fun h => by have := of_decide_eq_false h0; exact this h.2.2) h0, hS25, hr25.re (by simp [envTo, SX.look, den]) ⟨⟨hr25.all.1.1, by simp, by simp; omega⟩, ⟨hr25.all.2.1.1, by simp, by simp; omega⟩, ⟨hr25.all.2.2.1.1, by simp, by simp; omega⟩, ⟨hr25.all.2.2.2.1.1, fun _ => .inl (by show w.heap.size ≤ r; omega), by simp⟩, trivial⟩ rfl rfl⟩
    have d0' : (o.d == 0) = false := by simpa using d0
    have hH : ∀ e ∈ [(bm, false, SO.obj (.map es clk)), (b, false, SO.any), (sO, false, SO.cells [.v (.int .i64 o.d), .v (.int .i64 o.lba), .v (.int .i64 o.ver), .v (.int .i64 o.n), .v (.bool o.lg)] 40)], ¬ ((w.heap.size ≤ e.1 ∧ e.1 ≠ bm) ∧ e.1 ≠ sO) := by
      intro e he
      simp at he
      rcases he with rfl | rfl | rfl <;> simp
      omega
    by_cases d1 : o.d = 1
    · have d1' : (o.d == 1) = true := by simpa using d1
      refine seg cfg4_ok mixed PanicFree.body 1000 [false, true] [] h11.rebase (by first | trivial | exact HpRep.nil | assumption) (by kernel_rfl) fun s_ hs_ => ?_
      simp (maxSteps := 10000000) [SX.vc, SX.stop, SX.contS, SX.contB, SX.contW, SX.contR, SX.contD, SX.sxStep, SX.stepPure, SX.stepNew, SX.stepStore, SX.stepKeep, SX.guardIx, SX.evOp, SX.opd, SX.opds, SX.optOpd, SX.look, SX.putS, SX.gobs, SX.AllP, SX.leave, SX.lookC, SX.lookB, SX.lookT, SX.lookN, SX.findK, SX.evBuiltin, SX.ints, SX.foldI, SX.evBin, SX.evInt, SX.evStr, SX.evEq, SX.arith, SX.evLoad, SX.shapeUp, SX.evFieldAddr, SX.evField, SX.evIndexAddr, SX.evIndex, SX.evFill, SX.evBuild, SX.szs, SX.cellsV, SX.evNew, SX.evStore, SX.spliceL, SX.SV.cells, SX.evConv, SX.evSlice, SX.bnd, SX.evNil, SX.evUn, SX.evPick, SX.pickOpd, SX.popTo, SX.cnd, SX.env0, SX.TD.isAgg, SX.TD.isIface, SX.tails, SX.NotAgg, SX.evLookup, SX.evConvH, SX.evPtrEq, SX.isCells, SX.thaw, SX.frz, SX.fixB, SX.rootIx, SX.Froz, SX.frzStep, SX.fork, Go.Value.cells, Go.undef, cfg4, d0', d1']
      refine ⟨by (unfold SX.Ob; first | trivial | omega | ((try simp only [SX.inK]); (try simp [SX.den, SX.IsU8, SX.AllP, *]); (try omega))), ?_⟩
      intro a12 w12 hr12' _
      have hr12 := h11.unbase hr12'
      have hS12 := hS11.keep (by simpa [mutB] using hr12'.keeps.toBelow)
      have z12 : w.heap.size ≤ w12.heap.size := hr12.keeps.size
      have zz12 : w11.heap.size ≤ w12.heap.size := (show Below w11.heap.size w11 w12 by simpa [mutB] using hr12'.keeps.toBelow).size
      refine post_call 10 [.v (.pointer (some ⟨c, 0, none⟩)), .v (.int .i64 o.lba), .v (.int .i64 o.ver)] hr12 (wanted_none rfl) rfl (callable 10 Try.func10) (get_okS _ w12 c mm hits fails A hS12 o.lba o.ver (by unfold inK; omega) (by unfold inK; omega)) ?_
      rintro e13 w13 ⟨hc13, hcase⟩
      rcases hcase with ⟨y, b', cap', hfy, hvy, rfl, hsz, ⟨u', hB13⟩, hS13⟩ | ⟨hno, rfl, hS13⟩
      · refine ⟨_, rfl, ?_⟩
        have lb' := SO.rep_lt hB13
        have h13 := hr12.retC hc13 (fun _ h => h.1.1) 92 (.tu [.sl 3 b' 0 0 16 cap' 1, .v (.bool true)]) rfl [(bm, false, .obj (.map es clk)), (b, false, .any), (sO, false, .cells [.v (.int .i64 o.d), .v (.int .i64 o.lba), .v (.int .i64 o.ver), .v (.int .i64 o.n), .v (.bool o.lg)] 40), (b', false, .arr 0 16 (fun j => [.v (.int .u8 (y.g j))]) 1 u' (0, 0))] (HpAll.append (HpAll.cha hc13 hr12.all hH) hB13 (by simp) (by
          intro e he
          simp at he
          rcases he with rfl | rfl | rfl <;> simp <;> omega)) (by simp) rfl
        obtain ⟨hym, hyl⟩ := find_mem hfy
        have hmy : mL (o.lba, o.ver) = some (strT y.g) := by
          have := hLI.has y hym
          rwa [hyl, hvy] at this
        refine seg cfg4_ok mixed PanicFree.body 1000 [] [] h13.rebase (by first | trivial | exact HpRep.nil | assumption) (by kernel_rfl) fun s_ hs_ => ?_
        simp (maxSteps := 10000000) [SX.vc, SX.stop, SX.contS, SX.contB, SX.contW, SX.contR, SX.contD, SX.sxStep, SX.stepPure, SX.stepNew, SX.stepStore, SX.stepKeep, SX.guardIx, SX.evOp, SX.opd, SX.opds, SX.optOpd, SX.look, SX.putS, SX.gobs, SX.AllP, SX.leave, SX.lookC, SX.lookB, SX.lookT, SX.lookN, SX.findK, SX.evBuiltin, SX.ints, SX.foldI, SX.evBin, SX.evInt, SX.evStr, SX.evEq, SX.arith, SX.evLoad, SX.shapeUp, SX.evFieldAddr, SX.evField, SX.evIndexAddr, SX.evIndex, SX.evFill, SX.evBuild, SX.szs, SX.cellsV, SX.evNew, SX.evStore, SX.spliceL, SX.SV.cells, SX.evConv, SX.evSlice, SX.bnd, SX.evNil, SX.evUn, SX.evPick, SX.pickOpd, SX.popTo, SX.cnd, SX.env0, SX.TD.isAgg, SX.TD.isIface, SX.tails, SX.NotAgg, SX.evLookup, SX.evConvH, SX.evPtrEq, SX.isCells, SX.thaw, SX.frz, SX.fixB, SX.rootIx, SX.Froz, SX.frzStep, SX.fork, Go.Value.cells, Go.undef, cfg4]
        refine ⟨by (unfold SX.Ob; first | trivial | omega | ((try simp only [SX.inK]); (try simp [SX.den, SX.IsU8, SX.AllP, *]); (try omega))), ?_⟩
        intro a14 w14 hr14' _
        have hr14 := h13.unbase hr14'
        have hS14 := hS13.keep (by simpa [mutB] using hr14'.keeps.toBelow)
        refine post_lookP (kv := kv2) (G := In2) (k := (o.lba, o.ver)) hr14 (wanted_none rfl) rfl (by simp) rfl (ok := true) rfl rfl rfl (by simp [kv2, den, denL]) pair41 Try.underlying38 tok9 rfl hKM ⟨i2, i3⟩ (z := .tu [.v (strT y.g), .v (.bool true)]) (by rw [hmy]; simp [den, denL]) fun a15 hr15 => ?_
        refine seg cfg4_ok mixed PanicFree.body 1000 [false] [(106, true), (109, false)] hr15.rebase (by first | trivial | exact HpRep.nil | assumption) (by kernel_rfl) fun s_ hs_ => ?_
        simp (maxSteps := 10000000) [SX.vc, SX.stop, SX.contS, SX.contB, SX.contW, SX.contR, SX.contD, SX.sxStep, SX.stepPure, SX.stepNew, SX.stepStore, SX.stepKeep, SX.guardIx, SX.evOp, SX.opd, SX.opds, SX.optOpd, SX.look, SX.putS, SX.gobs, SX.AllP, SX.leave, SX.lookC, SX.lookB, SX.lookT, SX.lookN, SX.findK, SX.evBuiltin, SX.ints, SX.foldI, SX.evBin, SX.evInt, SX.evStr, SX.evEq, SX.arith, SX.evLoad, SX.shapeUp, SX.evFieldAddr, SX.evField, SX.evIndexAddr, SX.evIndex, SX.evFill, SX.evBuild, SX.szs, SX.cellsV, SX.evNew, SX.evStore, SX.spliceL, SX.SV.cells, SX.evConv, SX.evSlice, SX.bnd, SX.evNil, SX.evUn, SX.evPick, SX.pickOpd, SX.popTo, SX.cnd, SX.env0, SX.TD.isAgg, SX.TD.isIface, SX.tails, SX.NotAgg, SX.evLookup, SX.evConvH, SX.evPtrEq, SX.isCells, SX.thaw, SX.frz, SX.fixB, SX.rootIx, SX.Froz, SX.frzStep, SX.fork, Go.Value.cells, Go.undef, cfg4, strT]
        refine ⟨by (unfold SX.Ob; first | trivial | omega | ((try simp only [SX.inK]); (try simp [SX.den, SX.IsU8, SX.AllP, *]); (try omega))), ?_⟩
        intro a16 w16 hr16' _
        have hr16 := hr15.unbase hr16'
        have hS16 := hS14.keep (by simpa [mutB] using hr16'.keeps.toBelow)
        have hl16 : (y :: othersL o.lba A).length ≤ k + 1 := by
          have : (othersL o.lba A).length ≤ A.length := List.length_filter_le _ _
          simp only [List.length_cons]; omega
        exact post_inv ⟨es, clk, mL, _, hits + 1, fails, hKM, hLI.front hfy, hl16, by omega, by omega, hS16.mono fun y _ h => h.1.1, hr16.re (by simp [envTo, SX.look, den]) ⟨⟨hr16.all.1.1, fun _ => .inl lbm, by simp⟩, trivial⟩ rfl rfl⟩
      · refine ⟨_, rfl, ?_⟩
        have h13 := hr12.retC hc13 (fun _ h => h.1.1) 92 (.tu [.v (.slice none 0 0), .v (.bool false)]) rfl _ (HpAll.cha hc13 hr12.all hH) (by simp) rfl
        obtain ⟨sv, hsv⟩ : ∃ sv, (mL (o.lba, o.ver)).getD (.string ⟨#[]⟩) = .string sv := by
          rcases hm : mL (o.lba, o.ver) with _ | vv
          · exact ⟨_, rfl⟩
          · obtain ⟨s0, rfl⟩ := hLI.str _ _ hm
            exact ⟨s0, rfl⟩
        refine seg cfg4_ok mixed PanicFree.body 1000 [] [] h13.rebase (by first | trivial | exact HpRep.nil | assumption) (by kernel_rfl) fun s_ hs_ => ?_
        simp (maxSteps := 10000000) [SX.vc, SX.stop, SX.contS, SX.contB, SX.contW, SX.contR, SX.contD, SX.sxStep, SX.stepPure, SX.stepNew, SX.stepStore, SX.stepKeep, SX.guardIx, SX.evOp, SX.opd, SX.opds, SX.optOpd, SX.look, SX.putS, SX.gobs, SX.AllP, SX.leave, SX.lookC, SX.lookB, SX.lookT, SX.lookN, SX.findK, SX.evBuiltin, SX.ints, SX.foldI, SX.evBin, SX.evInt, SX.evStr, SX.evEq, SX.arith, SX.evLoad, SX.shapeUp, SX.evFieldAddr, SX.evField, SX.evIndexAddr, SX.evIndex, SX.evFill, SX.evBuild, SX.szs, SX.cellsV, SX.evNew, SX.evStore, SX.spliceL, SX.SV.cells, SX.evConv, SX.evSlice, SX.bnd, SX.evNil, SX.evUn, SX.evPick, SX.pickOpd, SX.popTo, SX.cnd, SX.env0, SX.TD.isAgg, SX.TD.isIface, SX.tails, SX.NotAgg, SX.evLookup, SX.evConvH, SX.evPtrEq, SX.isCells, SX.thaw, SX.frz, SX.fixB, SX.rootIx, SX.Froz, SX.frzStep, SX.fork, Go.Value.cells, Go.undef, cfg4]
        refine ⟨by (unfold SX.Ob; first | trivial | omega | ((try simp only [SX.inK]); (try simp [SX.den, SX.IsU8, SX.AllP, *]); (try omega))), ?_⟩
        intro a14 w14 hr14' _
        have hr14 := h13.unbase hr14'
        have hS14 := hS13.keep (by simpa [mutB] using hr14'.keeps.toBelow)
        refine post_lookP (kv := kv2) (G := In2) (k := (o.lba, o.ver)) hr14 (wanted_none rfl) rfl (by simp) rfl (ok := true) rfl rfl rfl (by simp [kv2, den, denL]) pair41 Try.underlying38 tok9 rfl hKM ⟨i2, i3⟩ (z := .tu [.v (.string sv), .v (.bool (mL (o.lba, o.ver)).isSome)]) (by simp [den, denL, hsv]) fun a15 hr15 => ?_
        refine seg cfg4_ok mixed PanicFree.body 1000 [false] [(106, false)] hr15.rebase (by first | trivial | exact HpRep.nil | assumption) (by kernel_rfl) fun s_ hs_ => ?_
        simp (maxSteps := 10000000) [SX.vc, SX.stop, SX.contS, SX.contB, SX.contW, SX.contR, SX.contD, SX.sxStep, SX.stepPure, SX.stepNew, SX.stepStore, SX.stepKeep, SX.guardIx, SX.evOp, SX.opd, SX.opds, SX.optOpd, SX.look, SX.putS, SX.gobs, SX.AllP, SX.leave, SX.lookC, SX.lookB, SX.lookT, SX.lookN, SX.findK, SX.evBuiltin, SX.ints, SX.foldI, SX.evBin, SX.evInt, SX.evStr, SX.evEq, SX.arith, SX.evLoad, SX.shapeUp, SX.evFieldAddr, SX.evField, SX.evIndexAddr, SX.evIndex, SX.evFill, SX.evBuild, SX.szs, SX.cellsV, SX.evNew, SX.evStore, SX.spliceL, SX.SV.cells, SX.evConv, SX.evSlice, SX.bnd, SX.evNil, SX.evUn, SX.evPick, SX.pickOpd, SX.popTo, SX.cnd, SX.env0, SX.TD.isAgg, SX.TD.isIface, SX.tails, SX.NotAgg, SX.evLookup, SX.evConvH, SX.evPtrEq, SX.isCells, SX.thaw, SX.frz, SX.fixB, SX.rootIx, SX.Froz, SX.frzStep, SX.fork, Go.Value.cells, Go.undef, cfg4]
        refine ⟨by (unfold SX.Ob; first | trivial | omega | ((try simp only [SX.inK]); (try simp [SX.den, SX.IsU8, SX.AllP, *]); (try omega))), ?_⟩
        intro a16 w16 hr16' _
        have hr16 := hr15.unbase hr16'
        have hS16 := hS14.keep (by simpa [mutB] using hr16'.keeps.toBelow)
        exact post_inv ⟨es, clk, mL, A, hits, fails + 1, hKM, hLI, by omega, by omega, by omega, hS16.mono fun y _ h => h.1, hr16.re (by simp [envTo, SX.look, den]) ⟨⟨hr16.all.1.1, fun _ => .inl lbm, by simp⟩, trivial⟩ rfl rfl⟩
    have d1' : (o.d == 1) = false := by simpa using d1
    by_cases d2 : o.d = 2
    · have d2' : (o.d == 2) = true := by simpa using d2
      refine seg cfg4_ok mixed PanicFree.body 1000 [false, false, true] [] h11.rebase (by first | trivial | exact HpRep.nil | assumption) (by kernel_rfl) fun s_ hs_ => ?_
      simp (maxSteps := 10000000) [SX.vc, SX.stop, SX.contS, SX.contB, SX.contW, SX.contR, SX.contD, SX.sxStep, SX.stepPure, SX.stepNew, SX.stepStore, SX.stepKeep, SX.guardIx, SX.evOp, SX.opd, SX.opds, SX.optOpd, SX.look, SX.putS, SX.gobs, SX.AllP, SX.leave, SX.lookC, SX.lookB, SX.lookT, SX.lookN, SX.findK, SX.evBuiltin, SX.ints, SX.foldI, SX.evBin, SX.evInt, SX.evStr, SX.evEq, SX.arith, SX.evLoad, SX.shapeUp, SX.evFieldAddr, SX.evField, SX.evIndexAddr, SX.evIndex, SX.evFill, SX.evBuild, SX.szs, SX.cellsV, SX.evNew, SX.evStore, SX.spliceL, SX.SV.cells, SX.evConv, SX.evSlice, SX.bnd, SX.evNil, SX.evUn, SX.evPick, SX.pickOpd, SX.popTo, SX.cnd, SX.env0, SX.TD.isAgg, SX.TD.isIface, SX.tails, SX.NotAgg, SX.evLookup, SX.evConvH, SX.evPtrEq, SX.isCells, SX.thaw, SX.frz, SX.fixB, SX.rootIx, SX.Froz, SX.frzStep, SX.fork, Go.Value.cells, Go.undef, cfg4, d0', d1', d2']
      refine ⟨by (unfold SX.Ob; first | trivial | omega | ((try simp only [SX.inK]); (try simp [SX.den, SX.IsU8, SX.AllP, *]); (try omega))), ?_⟩
      intro a12 w12 hr12' _
      have hr12 := h11.unbase hr12'
      have hS12 := hS11.keep (by simpa [mutB] using hr12'.keeps.toBelow)
      have z12 : w.heap.size ≤ w12.heap.size := hr12.keeps.size
      refine post_call 15 [.v (.pointer (some ⟨c, 0, none⟩)), .v (.int .i64 o.lba), .v (.int .i64 o.n)] hr12 (wanted_none rfl) rfl (callable 15 Try.func15) (drop_okS _ w12 c mm hits fails A hS12 o.lba o.n (hF2 o hoL d2) hLI.rng (by omega)) ?_
      rintro e13 w13 ⟨rfl, hc13, hS13⟩
      refine ⟨_, rfl, ?_⟩
      have h13 := hr12.retC hc13 (fun _ h => h.1.1) 123 (.v (.int .i64 ((A.filter fun x => goesB o.lba o.n x.lba).length : Int))) rfl _ (HpAll.cha hc13 hr12.all hH) (by simp) rfl
      have hsub : ∀ y ∈ dropL o.lba o.n A, y ∈ A := fun y hy => (List.mem_filter.1 hy).1
      have hLI2 := hLI.sub (B := dropL o.lba o.n A) hsub (List.length_filter_le _ _)
      have hl2 : (dropL o.lba o.n A).length ≤ A.length := List.length_filter_le _ _
      have hgo : ∀ y ∈ dropL o.lba o.n A, goesB o.lba o.n y.lba = false := fun y hy => by simpa using (List.mem_filter.1 hy).2
      refine seg cfg4_ok mixed PanicFree.body 1000 [] [] h13.rebase (by first | trivial | exact HpRep.nil | assumption) (by kernel_rfl) fun s_ hs_ => ?_
      simp (maxSteps := 10000000) [SX.vc, SX.stop, SX.contS, SX.contB, SX.contW, SX.contR, SX.contD, SX.sxStep, SX.stepPure, SX.stepNew, SX.stepStore, SX.stepKeep, SX.guardIx, SX.evOp, SX.opd, SX.opds, SX.optOpd, SX.look, SX.putS, SX.gobs, SX.AllP, SX.leave, SX.lookC, SX.lookB, SX.lookT, SX.lookN, SX.findK, SX.evBuiltin, SX.ints, SX.foldI, SX.evBin, SX.evInt, SX.evStr, SX.evEq, SX.arith, SX.evLoad, SX.shapeUp, SX.evFieldAddr, SX.evField, SX.evIndexAddr, SX.evIndex, SX.evFill, SX.evBuild, SX.szs, SX.cellsV, SX.evNew, SX.evStore, SX.spliceL, SX.SV.cells, SX.evConv, SX.evSlice, SX.bnd, SX.evNil, SX.evUn, SX.evPick, SX.pickOpd, SX.popTo, SX.cnd, SX.env0, SX.TD.isAgg, SX.TD.isIface, SX.tails, SX.NotAgg, SX.evLookup, SX.evConvH, SX.evPtrEq, SX.isCells, SX.thaw, SX.frz, SX.fixB, SX.rootIx, SX.Froz, SX.frzStep, SX.fork, Go.Value.cells, Go.undef, cfg4]
      refine ⟨by (unfold SX.Ob; first | trivial | omega | ((try simp only [SX.inK]); (try simp [SX.den, SX.IsU8, SX.AllP, *]); (try omega))), ?_⟩
      intro a14 w14 hr14' _
      have hr14 := h13.unbase hr14'
      have hS14 := hS13.keep (by simpa [mutB] using hr14'.keeps.toBelow)
      obtain ⟨B, hB⟩ : ∃ B, dropL o.lba o.n A = B := ⟨_, rfl⟩
      rw [hB] at hS14 hLI2 hl2 hgo
      refine post_call 12 [.v (.pointer (some ⟨c, 0, none⟩))] hr14 (wanted_none rfl) rfl (callable 12 Try.func12) (keysR_ok _ w14 c mm hits fails B hS14 (by omega)) ?_
      rintro e15 w15 ⟨v15, rfl, hK15, hb15⟩
      refine ⟨_, rfl, ?_⟩
      have h15 := hr14.ret hb15 125 (.v v15) rfl _ (hr14.all.below hb15) (by simp) rfl
      have hS15 := hS14.keep hb15
      obtain ⟨adk, nk, cpk, rfl, hnk⟩ : ∃ ad n cp, v15 = Value.slice ad n cp ∧ n = B.length := by
        obtain ⟨x1, x2, h1⟩ := hK15.slice
        exact ⟨_, _, _, h1, by simp [keysL]⟩
      refine seg cfg4_ok mixed PanicFree.body 1000 [] [] h15.rebase (by first | trivial | exact HpRep.nil | assumption) (by kernel_rfl) fun s_ hs_ => ?_
      simp (maxSteps := 10000000) [SX.vc, SX.stop, SX.contS, SX.contB, SX.contW, SX.contR, SX.contD, SX.sxStep, SX.stepPure, SX.stepNew, SX.stepStore, SX.stepKeep, SX.guardIx, SX.evOp, SX.opd, SX.opds, SX.optOpd, SX.look, SX.putS, SX.gobs, SX.AllP, SX.leave, SX.lookC, SX.lookB, SX.lookT, SX.lookN, SX.findK, SX.evBuiltin, SX.ints, SX.foldI, SX.evBin, SX.evInt, SX.evStr, SX.evEq, SX.arith, SX.evLoad, SX.shapeUp, SX.evFieldAddr, SX.evField, SX.evIndexAddr, SX.evIndex, SX.evFill, SX.evBuild, SX.szs, SX.cellsV, SX.evNew, SX.evStore, SX.spliceL, SX.SV.cells, SX.evConv, SX.evSlice, SX.bnd, SX.evNil, SX.evUn, SX.evPick, SX.pickOpd, SX.popTo, SX.cnd, SX.env0, SX.TD.isAgg, SX.TD.isIface, SX.tails, SX.NotAgg, SX.evLookup, SX.evConvH, SX.evPtrEq, SX.isCells, SX.thaw, SX.frz, SX.fixB, SX.rootIx, SX.Froz, SX.frzStep, SX.fork, Go.Value.cells, Go.undef, cfg4]
      refine ⟨by (unfold SX.Ob; first | trivial | omega | ((try simp only [SX.inK]); (try simp [SX.den, SX.IsU8, SX.AllP, *]); (try omega))), ?_⟩
      intro a16 w16 hr16' _
      have hr16 := h15.unbase hr16'
      have hS16 := hS15.keep (by simpa [mutB] using hr16'.keeps.toBelow)
      have hK16 := hK15.keep hr16'.keeps (by simp [frameAt, mutB])
      have lsO14 := SO.rep_lt hr14.all.2.2.1.1
      have zz16 : (frameAt w15 ([] : Hp)).w0.heap.size ≤ w16.heap.size := hr16'.keeps.size
      simp only [frameAt] at zz16
      have zz15 := hb15.size
      have hK16' := hK16.mono (P' := fun y => sO < y ∧ y < w16.heap.size) fun y h1 h2 => ⟨by omega, h1⟩
      have hnk' : nk = (keysL B).length := by rw [hnk]; simp [keysL]
      subst hnk'
      refine post_loop (KyLoop w ops (.slice (some ⟨b, o0, none⟩) ops.length cp) x c bm mm k o b sO es clk B hits fails (.slice adk (keysL B).length cpk) w16.heap.size) (keysL B).length ⟨0, rfl, by omega, hK16', Nat.le_refl _, hS16, hr16.re (by simp [envTo, SX.look, den]) hr16.all rfl rfl⟩ ?_
      clear hr16 hr16' h15 hr14 hr14' h13 hr12 hr12' hK15 hK16 hK16' hS16 hS15 hS14 hS13 hS12
      rintro m a17 w17 ⟨j, rfl, hj, hK17, hz17, hS17, hr17⟩
      by_cases hj2 : j < (keysL B).length
      · obtain ⟨bk, ok, capk, uk, fzk, ⟨hPk, hPk2⟩, hvk, hrepk⟩ := hK17.opn hj2
        cases hvk
        obtain ⟨p, hp⟩ : ∃ p, nth key0 (keysL B) j = p := ⟨_, rfl⟩
        have hpB : p ∈ keysL B := hp ▸ nth_mem hj2
        obtain ⟨y, hyB, hyp⟩ := List.mem_map.1 hpB
        have hp1 : p.1 = y.lba := by rw [← hyp]
        have hgy := hgo y hyB
        have hry := hLI2.rng y hyB
        have hl0 := hF2 o hoL d2
        have hA17 := hr17.all
        have lsO17 := SO.rep_lt hA17.2.2.1.1
        have h18 := (hr17.top 125 (.sl 3 bk ok 0 (keysL B).length cpk 2) rfl (by simp [den])).see [(bm, false, .obj (.map es clk)), (b, false, .any), (sO, false, .cells [.v (.int .i64 o.d), .v (.int .i64 o.lba), .v (.int .i64 o.ver), .v (.int .i64 o.n), .v (.bool o.lg)] 40), (bk, false, .arr ok (keysL B).length (fun j => keyC (nth key0 (keysL B) j)) 2 uk fzk)] ⟨⟨hA17.1.1, by simp, by simp; omega⟩, ⟨hA17.2.1.1, by simp, by simp; omega⟩, ⟨hA17.2.2.1.1, by simp, by simp; omega⟩, HpAll.one hrepk⟩
        by_cases c1 : o.lba ≤ p.1
        rotate_left
        · refine seg cfg4_ok mixed PanicFree.body 1000 [true, false] [(136, false)] h18.rebase (by first | trivial | exact HpRep.nil | assumption) (by kernel_rfl) fun s_ hs_ => ?_
          simp (maxSteps := 10000000) [SX.vc, SX.stop, SX.contS, SX.contB, SX.contW, SX.contR, SX.contD, SX.sxStep, SX.stepPure, SX.stepNew, SX.stepStore, SX.stepKeep, SX.guardIx, SX.evOp, SX.opd, SX.opds, SX.optOpd, SX.look, SX.putS, SX.gobs, SX.AllP, SX.leave, SX.lookC, SX.lookB, SX.lookT, SX.lookN, SX.findK, SX.evBuiltin, SX.ints, SX.foldI, SX.evBin, SX.evInt, SX.evStr, SX.evEq, SX.arith, SX.evLoad, SX.shapeUp, SX.evFieldAddr, SX.evField, SX.evIndexAddr, SX.evIndex, SX.evFill, SX.evBuild, SX.szs, SX.cellsV, SX.evNew, SX.evStore, SX.spliceL, SX.SV.cells, SX.evConv, SX.evSlice, SX.bnd, SX.evNil, SX.evUn, SX.evPick, SX.pickOpd, SX.popTo, SX.cnd, SX.env0, SX.TD.isAgg, SX.TD.isIface, SX.tails, SX.NotAgg, SX.evLookup, SX.evConvH, SX.evPtrEq, SX.isCells, SX.thaw, SX.frz, SX.fixB, SX.rootIx, SX.Froz, SX.frzStep, SX.fork, Go.Value.cells, Go.undef, cfg4, keyC, hp, c1]
          refine ⟨by (unfold SX.Ob; first | trivial | omega | ((try simp only [SX.inK]); (try simp [SX.den, SX.IsU8, SX.AllP, *]); (try omega))), ?_⟩
          intro a19 w19 hr19' _
          have hr19 := h18.unbase hr19'
          have hS19 := hS17.keep (by simpa [mutB] using hr19'.keeps.toBelow)
          have hK19 := hK17.keep hr19'.keeps (by simp [frameAt, mutB])
          have zz19 : (frameAt w17 ([] : Hp)).w0.heap.size ≤ w19.heap.size := hr19'.keeps.size
          simp only [frameAt] at zz19
          exact post_rnd ((keysL B).length - (j + 1)) (by omega) ⟨j + 1, rfl, hj2, hK19, by omega, hS19, hr19.re (by simp [envTo, SX.look, den]) ⟨⟨hr19.all.1.1, by simp, by simp; omega⟩, ⟨hr19.all.2.1.1, by simp, by simp; omega⟩, ⟨hr19.all.2.2.1.1, by simp, by simp⟩, trivial⟩ rfl rfl⟩
        · have c2 : ¬ p.1 - o.lba < o.n := fun h => by
            unfold goesB at hgy
            rw [← hp1, decide_eq_true c1, decide_eq_true h] at hgy
            simp at hgy
          have r1 : 0 ≤ p.1 ∧ p.1 ≤ 9223372036854775807 := by rw [hp1]; exact hry
          refine seg cfg4_ok mixed PanicFree.body 1000 [true, false] [(136, true)] h18.rebase (by first | trivial | exact HpRep.nil | assumption) (by kernel_rfl) fun s_ hs_ => ?_
          simp (maxSteps := 10000000) [SX.vc, SX.stop, SX.contS, SX.contB, SX.contW, SX.contR, SX.contD, SX.sxStep, SX.stepPure, SX.stepNew, SX.stepStore, SX.stepKeep, SX.guardIx, SX.evOp, SX.opd, SX.opds, SX.optOpd, SX.look, SX.putS, SX.gobs, SX.AllP, SX.leave, SX.lookC, SX.lookB, SX.lookT, SX.lookN, SX.findK, SX.evBuiltin, SX.ints, SX.foldI, SX.evBin, SX.evInt, SX.evStr, SX.evEq, SX.arith, SX.evLoad, SX.shapeUp, SX.evFieldAddr, SX.evField, SX.evIndexAddr, SX.evIndex, SX.evFill, SX.evBuild, SX.szs, SX.cellsV, SX.evNew, SX.evStore, SX.spliceL, SX.SV.cells, SX.evConv, SX.evSlice, SX.bnd, SX.evNil, SX.evUn, SX.evPick, SX.pickOpd, SX.popTo, SX.cnd, SX.env0, SX.TD.isAgg, SX.TD.isIface, SX.tails, SX.NotAgg, SX.evLookup, SX.evConvH, SX.evPtrEq, SX.isCells, SX.thaw, SX.frz, SX.fixB, SX.rootIx, SX.Froz, SX.frzStep, SX.fork, Go.Value.cells, Go.undef, cfg4, keyC, hp, c1, c2]
          refine ⟨by (unfold SX.Ob; first | trivial | omega | ((try simp only [SX.inK]); (try simp [SX.den, SX.IsU8, SX.AllP, *]); (try omega))), ?_⟩
          intro a19 w19 hr19' _
          have hr19 := h18.unbase hr19'
          have hS19 := hS17.keep (by simpa [mutB] using hr19'.keeps.toBelow)
          have hK19 := hK17.keep hr19'.keeps (by simp [frameAt, mutB])
          have zz19 : (frameAt w17 ([] : Hp)).w0.heap.size ≤ w19.heap.size := hr19'.keeps.size
          simp only [frameAt] at zz19
          exact post_rnd ((keysL B).length - (j + 1)) (by omega) ⟨j + 1, rfl, hj2, hK19, by omega, hS19, hr19.re (by simp [envTo, SX.look, den]) ⟨⟨hr19.all.1.1, by simp, by simp; omega⟩, ⟨hr19.all.2.1.1, by simp, by simp; omega⟩, ⟨hr19.all.2.2.1.1, by simp, by simp⟩, trivial⟩ rfl rfl⟩
      · obtain rfl : j = (keysL B).length := by omega
        refine seg cfg4_ok mixed PanicFree.body 1000 [false] [] hr17.rebase (by first | trivial | exact HpRep.nil | assumption) (by kernel_rfl) fun s_ hs_ => ?_
        simp (maxSteps := 10000000) [SX.vc, SX.stop, SX.contS, SX.contB, SX.contW, SX.contR, SX.contD, SX.sxStep, SX.stepPure, SX.stepNew, SX.stepStore, SX.stepKeep, SX.guardIx, SX.evOp, SX.opd, SX.opds, SX.optOpd, SX.look, SX.putS, SX.gobs, SX.AllP, SX.leave, SX.lookC, SX.lookB, SX.lookT, SX.lookN, SX.findK, SX.evBuiltin, SX.ints, SX.foldI, SX.evBin, SX.evInt, SX.evStr, SX.evEq, SX.arith, SX.evLoad, SX.shapeUp, SX.evFieldAddr, SX.evField, SX.evIndexAddr, SX.evIndex, SX.evFill, SX.evBuild, SX.szs, SX.cellsV, SX.evNew, SX.evStore, SX.spliceL, SX.SV.cells, SX.evConv, SX.evSlice, SX.bnd, SX.evNil, SX.evUn, SX.evPick, SX.pickOpd, SX.popTo, SX.cnd, SX.env0, SX.TD.isAgg, SX.TD.isIface, SX.tails, SX.NotAgg, SX.evLookup, SX.evConvH, SX.evPtrEq, SX.isCells, SX.thaw, SX.frz, SX.fixB, SX.rootIx, SX.Froz, SX.frzStep, SX.fork, Go.Value.cells, Go.undef, cfg4]
        refine ⟨by (unfold SX.Ob; first | trivial | omega | ((try simp only [SX.inK]); (try simp [SX.den, SX.IsU8, SX.AllP, *]); (try omega))), ?_⟩
        intro a18 w18 hr18' _
        have hr18 := hr17.unbase hr18'
        have hS18 := hS17.keep (by simpa [mutB] using hr18'.keeps.toBelow)
        exact post_inv ⟨es, clk, mL, B, hits, fails, hKM, hLI2, by omega, by omega, by omega, hS18.mono fun y _ h => h.1, hr18.re (by simp [envTo, SX.look, den]) ⟨⟨hr18.all.1.1, fun _ => .inl lbm, by simp⟩, trivial⟩ rfl rfl⟩
    · have d2' : (o.d == 2) = false := by simpa using d2
      refine seg cfg4_ok mixed PanicFree.body 1000 [false, false, false] [] h11.rebase (by first | trivial | exact HpRep.nil | assumption) (by kernel_rfl) fun s_ hs_ => ?_
      simp (maxSteps := 10000000) [SX.vc, SX.stop, SX.contS, SX.contB, SX.contW, SX.contR, SX.contD, SX.sxStep, SX.stepPure, SX.stepNew, SX.stepStore, SX.stepKeep, SX.guardIx, SX.evOp, SX.opd, SX.opds, SX.optOpd, SX.look, SX.putS, SX.gobs, SX.AllP, SX.leave, SX.lookC, SX.lookB, SX.lookT, SX.lookN, SX.findK, SX.evBuiltin, SX.ints, SX.foldI, SX.evBin, SX.evInt, SX.evStr, SX.evEq, SX.arith, SX.evLoad, SX.shapeUp, SX.evFieldAddr, SX.evField, SX.evIndexAddr, SX.evIndex, SX.evFill, SX.evBuild, SX.szs, SX.cellsV, SX.evNew, SX.evStore, SX.spliceL, SX.SV.cells, SX.evConv, SX.evSlice, SX.bnd, SX.evNil, SX.evUn, SX.evPick, SX.pickOpd, SX.popTo, SX.cnd, SX.env0, SX.TD.isAgg, SX.TD.isIface, SX.tails, SX.NotAgg, SX.evLookup, SX.evConvH, SX.evPtrEq, SX.isCells, SX.thaw, SX.frz, SX.fixB, SX.rootIx, SX.Froz, SX.frzStep, SX.fork, Go.Value.cells, Go.undef, cfg4, d0', d1', d2']
      refine ⟨by (unfold SX.Ob; first | trivial | omega | ((try simp only [SX.inK]); (try simp [SX.den, SX.IsU8, SX.AllP, *]); (try omega))), ?_⟩
      intro a12 w12 hr12' _
      have hr12 := h11.unbase hr12'
      have hS12 := hS11.keep (by simpa [mutB] using hr12'.keeps.toBelow)
      exact post_inv ⟨es, clk, mL, A, hits, fails, hKM, hLI, by omega, by omega, by omega, hS12.mono fun y _ h => h.1, hr12.re (by simp [envTo, SX.look, den]) ⟨⟨hr12.all.1.1, fun _ => .inl lbm, by simp⟩, trivial⟩ rfl rfl⟩
  clear h11 hS11 hS hKM hLI hAl hh hf hA11
  obtain ⟨es, clk, mL, A, hits, fails, hKM, hLI, hAl, hh, hf, hS, hr12⟩ := hJ
  have lbm12 := SO.rep_lt hr12.all.1.1
  have h12 := hr12.see [(bm, false, .obj (.map es clk))] (HpAll.one hr12.all.1.1)
  refine seg cfg4_ok mixed PanicFree.body 1000 [] [] h12.rebase (by first | trivial | exact HpRep.nil | assumption) (by kernel_rfl) fun s_ hs_ => ?_
  simp (maxSteps := 10000000) [SX.vc, SX.stop, SX.contS, SX.contB, SX.contW, SX.contR, SX.contD, SX.sxStep, SX.stepPure, SX.stepNew, SX.stepStore, SX.stepKeep, SX.guardIx, SX.evOp, SX.opd, SX.opds, SX.optOpd, SX.look, SX.putS, SX.gobs, SX.AllP, SX.leave, SX.lookC, SX.lookB, SX.lookT, SX.lookN, SX.findK, SX.evBuiltin, SX.ints, SX.foldI, SX.evBin, SX.evInt, SX.evStr, SX.evEq, SX.arith, SX.evLoad, SX.shapeUp, SX.evFieldAddr, SX.evField, SX.evIndexAddr, SX.evIndex, SX.evFill, SX.evBuild, SX.szs, SX.cellsV, SX.evNew, SX.evStore, SX.spliceL, SX.SV.cells, SX.evConv, SX.evSlice, SX.bnd, SX.evNil, SX.evUn, SX.evPick, SX.pickOpd, SX.popTo, SX.cnd, SX.env0, SX.TD.isAgg, SX.TD.isIface, SX.tails, SX.NotAgg, SX.evLookup, SX.evConvH, SX.evPtrEq, SX.isCells, SX.thaw, SX.frz, SX.fixB, SX.rootIx, SX.Froz, SX.frzStep, SX.fork, Go.Value.cells, Go.undef, cfg4]
  refine ⟨by (unfold SX.Ob; first | trivial | omega | ((try simp only [SX.inK]); (try simp [SX.den, SX.IsU8, SX.AllP, *]); (try omega))), ?_⟩
  intro a13 w13 hr13' _
  have hr13 := h12.unbase hr13'
  have hS13 := hS.keep (by simpa [mutB] using hr13'.keeps.toBelow)
  refine post_call 12 [.v (.pointer (some ⟨c, 0, none⟩))] hr13 (wanted_none rfl) rfl (callable 12 Try.func12) (keysR_ok _ w13 c mm hits fails A hS13 (by omega)) ?_
  rintro e15 w15 ⟨v15, rfl, hK15, hb15⟩
  refine ⟨_, rfl, ?_⟩
  have h15 := hr13.ret hb15 148 (.v v15) rfl _ (hr13.all.below hb15) (by simp) rfl
  have hS15 := hS13.keep hb15
  obtain ⟨adk, nk, cpk, rfl, hnk⟩ : ∃ ad n cp, v15 = Value.slice ad n cp ∧ n = A.length := by
    obtain ⟨x1, x2, h1⟩ := hK15.slice
    exact ⟨_, _, _, h1, by simp [keysL]⟩
  have hle : ¬ mm < (nk : Int) := by have := hLI.len; omega
  refine seg cfg4_ok mixed PanicFree.body 1000 [false] [] h15.rebase (by first | trivial | exact HpRep.nil | assumption) (by kernel_rfl) fun s_ hs_ => ?_
  simp (maxSteps := 10000000) [SX.vc, SX.stop, SX.contS, SX.contB, SX.contW, SX.contR, SX.contD, SX.sxStep, SX.stepPure, SX.stepNew, SX.stepStore, SX.stepKeep, SX.guardIx, SX.evOp, SX.opd, SX.opds, SX.optOpd, SX.look, SX.putS, SX.gobs, SX.AllP, SX.leave, SX.lookC, SX.lookB, SX.lookT, SX.lookN, SX.findK, SX.evBuiltin, SX.ints, SX.foldI, SX.evBin, SX.evInt, SX.evStr, SX.evEq, SX.arith, SX.evLoad, SX.shapeUp, SX.evFieldAddr, SX.evField, SX.evIndexAddr, SX.evIndex, SX.evFill, SX.evBuild, SX.szs, SX.cellsV, SX.evNew, SX.evStore, SX.spliceL, SX.SV.cells, SX.evConv, SX.evSlice, SX.bnd, SX.evNil, SX.evUn, SX.evPick, SX.pickOpd, SX.popTo, SX.cnd, SX.env0, SX.TD.isAgg, SX.TD.isIface, SX.tails, SX.NotAgg, SX.evLookup, SX.evConvH, SX.evPtrEq, SX.isCells, SX.thaw, SX.frz, SX.fixB, SX.rootIx, SX.Froz, SX.frzStep, SX.fork, Go.Value.cells, Go.undef, cfg4, hmm, hle]
  refine ⟨by (unfold SX.Ob; first | trivial | omega | ((try simp only [SX.inK]); (try simp [SX.den, SX.IsU8, SX.AllP, *]); (try omega))), ?_⟩
  intro a16 w16 hr16' _
  have hr16 := h15.unbase hr16'
  have hS16 := hS15.keep (by simpa [mutB] using hr16'.keeps.toBelow)
  exact post_rnd (ops.length - (k + 1)) (by omega) ⟨k + 1, es, clk, mL, A, hits, fails, rfl, hlt, hKM, hLI, hAl, by omega, by omega, hS16, hr16.re (by simp [envTo, SX.look, den]) ⟨⟨hr16.all.1.1, fun _ => .inl lbm, by simp⟩, trivial⟩ rfl rfl⟩
end Go.Proofs
