/- ExtentLast: each block tells what was put last. -/
import Derived.Test.YtpbihcfmjnidbaaEV
import Derived.Test.YtpbihcfmjnidbaaES
namespace Go.Proofs
set_option linter.unusedVariables false
set_option linter.unusedSimpArgs false
open Go Go.SX Go.RowKit

theorem few_top {w : World} {s : Nat} {v : Value} {L : List Ext} {row : Nat → List SV} (h : (SO.arr 0 1 row 1 22 (0, 0)).rep w s) (h0 : denL (row 0) = [v]) (hv : ∃ ad cp, v = .slice ad L.length cp) :
    Calls Try.prog 9 (denL [.sl 0 s 0 0 1 1 1]).toArray w (FewPost w 1 [L]) := by
  have := few_one (w := w) (s := s) (v := v) (L := L) h h0 hv
  exact this

/-- 'delete(m, k)' in a plain region. -/
theorem post_delete {P : Program} {Q : Exit → Act → World → Prop} {F : Fr} {st : St} {all : Array Oper} {o : Oper} {l : List Oper} {ks : List W} {a : Act} {w : World} {args : Array Operand} {t t' kt et : TypeId} {i b : Nat} {m : Int → Option SV} {k : Int}
    (hr : RepX F st a w) (hg : o.guard = none) (hd : o.dst = none) (hop : o.op = .call { callee := .builtin .delete, args := args, argTypes := #[t, t'] }) (h : opds st 0 args.toList = some [.mp i b, .v (.int .i64 k)])
    (ht : P.underlying t = some (.map kt et)) (hk : P.underlying kt = some (.int .i64)) (hm : (SO.imap m).rep w b)
    (hn : ∀ o', (SO.imap (delFn m k)).rep (putBlk w b o') b → post P Q (.ops all l :: ks) .normal a (putBlk w b o')) : post P Q (.ops all (o :: l) :: ks) .normal a w := by
  obtain ⟨o', he, hm'⟩ := exec_delete (P := P) (c := 0) (hr.env.same (st' := st) rfl rfl rfl rfl) rfl hop h ht hk hm
  refine post_step hg he ?_
  rw [hd]
  exact hn o' hm'

theorem post_stepG {P : Program} {Q : Exit → Act → World → Prop} {all : Array Oper} {o : Oper} {l : List Oper} {k : List W} {a : Act} {w w' : World} {v : Value} (hw : Region.wanted o (yielded all a.tmps) = true) (he : (execOp a.eval o).run P w = .ok (.value v) w')
    (hk : post P Q (.ops all l :: k) .normal (a.put o.dst v) w') : post P Q (.ops all (o :: l) :: k) .normal a w := by
  show wpList P all (post P Q k) (o :: l) a w
  unfold wpList
  rw [if_pos hw]
  refine .inl ?_
  simp only [Oper.wp, he, Oper.upon]
  exact hk

/-- The length of a map in a plain region. -/
theorem post_maplen {P : Program} {Q : Exit → Act → World → Prop} {F : Fr} {st : St} {all : Array Oper} {o : Oper} {l : List Oper} {ks : List W} {a : Act} {w : World} {args : Array Operand} {t kt et : TypeId} {j b : Nat} {m : Int → Option SV} (keys : List Int)
    (hr : RepX F st a w) (hw : Region.wanted o (yielded all a.tmps) = true) {d : Nat} (hd : o.dst = some d) (hop : o.op = .call { callee := .builtin .len, args := args, argTypes := #[t] }) (h : opds st 0 args.toList = some [.mp j b]) (ht : P.underlying t = some (.map kt et))
    (hm : (SO.imap m).rep w b) (hn : keys.Nodup) (hk : ∀ k, (m k).isSome = true ↔ k ∈ keys) (hdn : d < st.nt) (hks : st.ks.all (fun r => r.tj != d) = true)
    (hc : ∀ a', RepX F { st with env := (d, 0, .v (.int .i64 keys.length)) :: st.env } a' w → post P Q (.ops all l :: ks) .normal a' w) : post P Q (.ops all (o :: l) :: ks) .normal a w := by
  refine post_stepG (v := .int .i64 keys.length) hw (exec_maplen (c := 0) (hr.env.same (st' := st) rfl rfl rfl rfl) rfl hop h ht hm hn hk) ?_
  rw [hd]
  exact hc _ (hr.retK (KeepsTo.refl w []) (by simp) d (.v (.int .i64 keys.length)) rfl st.hp hr.all hdn hks)

abbrev numC (y : Int) : List SV := [.v (.int .i64 y)]
abbrev RdN := RdS numC 1 0

def LastLoop (w : World) (v vc : Value) (L : List Ext) (m : Nat) (a : Act) (w' : World) : Prop :=
  ∃ (k cW : Nat) (X : List Ext) (v6 : Value), m = L.length - k ∧ k ≤ L.length ∧ Chk X ∧ Lo X ∧ w.heap.size ≤ cW ∧ OwE (fun x => cW < x) w' v6 X ∧
    RepX (frame0 w) ⟨[(32, 0, .v (.int .i64 k)), (31, 0, .v (.int .i64 L.length)), (30, 0, .v v), (7, 0, .mp 0 cW), (6, 0, .v v6), (1, 0, .v vc), (5, 0, .v (.bool true))], [(cW, true, .imap (wF X))], 0, 0, 150, [], [], []⟩ a w'

def InLoop (w : World) (v vc : Value) (L : List Ext) (k cW sX : Nat) (X M : List Ext) (x : Ext) (m : Nat) (a : Act) (w' : World) : Prop :=
  ∃ (j : Nat) (v6 : Value), m = x.n.toNat - j ∧ j ≤ x.n.toNat ∧ OwE (fun x => sX < x) w' v6 M ∧
    RepX (frame0 w) ⟨[(62, 0, .v (.int .i64 j)), (61, 0, .v (.int .i64 x.n)), (9, 0, .ptr 1 sX 0), (8, 0, .v (.int .i64 k)), (32, 0, .v (.int .i64 k)), (31, 0, .v (.int .i64 L.length)), (30, 0, .v v), (7, 0, .mp 0 cW), (6, 0, .v v6), (1, 0, .v vc), (5, 0, .v (.bool true))],
      [(cW, true, .imap (wK X x j)), (sX, true, .cells (extC x) 24)], 0, 0, 150, [], [], []⟩ a w'

def LastJ (w : World) (v vc : Value) (L : List Ext) (k cW : Nat) (a : Act) (w' : World) : Prop :=
  ∃ (X : List Ext) (v6 : Value), Chk X ∧ Lo X ∧ OwE (fun x => cW < x) w' v6 X ∧
    RepX (frame0 w) ⟨[(32, 0, .v (.int .i64 k)), (31, 0, .v (.int .i64 L.length)), (30, 0, .v v), (7, 0, .mp 0 cW), (6, 0, .v v6), (1, 0, .v vc), (5, 0, .v (.bool true))], [(cW, true, .imap (wF X))], 0, 0, 150, [], [], []⟩ a w'

def DelLoop (w : World) (v vc : Value) (L : List Ext) (k cW : Nat) (X X' : List Ext) (c : Int) (v6 : Value) (m : Nat) (a : Act) (w' : World) : Prop :=
  ∃ d : Nat, m = 3 - d ∧ d ≤ 3 ∧ OwE (fun x => cW < x) w' v6 X' ∧
    RepX (frame0 w) ⟨[(116, 0, .v (.int .i64 d)), (8, 0, .v (.int .i64 k)), (32, 0, .v (.int .i64 k)), (31, 0, .v (.int .i64 L.length)), (30, 0, .v v), (7, 0, .mp 0 cW), (6, 0, .v v6), (1, 0, .v vc), (5, 0, .v (.bool true))], [(cW, true, .imap (dK X c d))], 0, 0, 150, [], [], []⟩ a w'

def FinLoop (w : World) (cW : Nat) (X : List Ext) (v6 : Value) (m : Nat) (a : Act) (w' : World) : Prop :=
  ∃ j : Nat, m = 260 - j ∧ j ≤ 260 ∧ OwE (fun x => cW < x) w' v6 X ∧
    RepX (frame0 w) ⟨[(131, 0, .v (.int .i64 j)), (7, 0, .mp 0 cW), (6, 0, .v v6), (5, 0, .v (.bool true))], [(cW, true, .imap (wF X))], 0, 0, 150, [], [], []⟩ a w'

set_option maxRecDepth 100000 in
set_option maxHeartbeats 16000000 in
theorem last_ok (w : World) (v vc : Value) (L : List Ext) (C : List Int) (hL : RdE (fun x => x < w.heap.size) w v L) (hC : RdN (fun x => x < w.heap.size) w vc C) (hlen : L.length ≤ 1000000000000000) (hlen' : C.length ≤ 1000000000000000) : Calls Try.prog 4 (denL [.v v, .v vc]).toArray w (Ret w (.v (.bool true))) := by
  obtain ⟨ad, cp, rfl⟩ := hL.slice
  obtain ⟨ad', cp', rfl⟩ := hC.slice
  refine enter (F := frame0 w) Try.func4 rfl [.v (.slice ad L.length cp), .v (.slice ad' C.length cp')] [] (by simp [Try.f4]) trivial (keeps0 w) fun a hr => ?_
  refine seg cfg4_ok mixed PanicFree.body 1000 [] [] hr (by first | trivial | exact HpRep.nil | assumption) (by kernel_rfl) fun s_ hs_ => ?_
  simp (maxSteps := 10000000) [SX.vc, SX.stop, SX.contS, SX.contB, SX.contW, SX.contR, SX.contD, SX.sxStep, SX.stepPure, SX.stepNew, SX.stepStore, SX.stepKeep, SX.guardIx, SX.evOp, SX.opd, SX.opds, SX.optOpd, SX.look, SX.putS, SX.gobs, SX.AllP, SX.leave, SX.lookC, SX.lookB, SX.lookT, SX.lookN, SX.findK, SX.evBuiltin, SX.ints, SX.foldI, SX.evBin, SX.evInt, SX.evStr, SX.evEq, SX.arith, SX.evLoad, SX.shapeUp, SX.evFieldAddr, SX.evField, SX.evIndexAddr, SX.evIndex, SX.evFill, SX.evBuild, SX.szs, SX.cellsV, SX.evNew, SX.evStore, SX.spliceL, SX.SV.cells, SX.evConv, SX.evSlice, SX.bnd, SX.evNil, SX.evUn, SX.evPick, SX.pickOpd, SX.popTo, SX.cnd, SX.env0, SX.TD.isAgg, SX.TD.isIface, SX.tails, SX.NotAgg, SX.evLookup, SX.evConvH, SX.evPtrEq, SX.isCells, SX.thaw, SX.frz, SX.fixB, SX.rootIx, SX.Froz, SX.frzStep, SX.fork, Go.Value.cells, Go.undef, cfg4, Try.f4]
  refine ⟨by (unfold SX.Ob; first | trivial | omega | ((try simp only [SX.inK]); (try simp [SX.den, SX.IsU8, SX.AllP, *]); (try omega))), ?_⟩
  intro a1 w1 hr1 _
  refine post_call 8 [] hr1 (by first | exact wanted_none rfl | exact wanted_zero (hr1.env.same rfl rfl rfl rfl) rfl (by simp)) rfl (callable 8 Try.func8) (live_ok w1) ?_
  rintro e2 w2 ⟨rfl, hb2⟩
  refine ⟨_, rfl, ?_⟩
  have h2 := hr1.ret hb2 18 (.v (.bool true)) rfl _ (hr1.all.below hb2) (by simp) rfl
  refine seg cfg4_ok mixed PanicFree.body 1000 [] [] h2 (by first | trivial | exact HpRep.nil | assumption) (by kernel_rfl) fun sF hsF => ?_
  simp (maxSteps := 10000000) [SX.vc, SX.stop, SX.contS, SX.contB, SX.contW, SX.contR, SX.contD, SX.sxStep, SX.stepPure, SX.stepNew, SX.stepStore, SX.stepKeep, SX.guardIx, SX.evOp, SX.opd, SX.opds, SX.optOpd, SX.look, SX.putS, SX.gobs, SX.AllP, SX.leave, SX.lookC, SX.lookB, SX.lookT, SX.lookN, SX.findK, SX.evBuiltin, SX.ints, SX.foldI, SX.evBin, SX.evInt, SX.evStr, SX.evEq, SX.arith, SX.evLoad, SX.shapeUp, SX.evFieldAddr, SX.evField, SX.evIndexAddr, SX.evIndex, SX.evFill, SX.evBuild, SX.szs, SX.cellsV, SX.evNew, SX.evStore, SX.spliceL, SX.SV.cells, SX.evConv, SX.evSlice, SX.bnd, SX.evNil, SX.evUn, SX.evPick, SX.pickOpd, SX.popTo, SX.cnd, SX.env0, SX.TD.isAgg, SX.TD.isIface, SX.tails, SX.NotAgg, SX.evLookup, SX.evConvH, SX.evPtrEq, SX.isCells, SX.thaw, SX.frz, SX.fixB, SX.rootIx, SX.Froz, SX.frzStep, SX.fork, Go.Value.cells, Go.undef, cfg4]
  refine ⟨by (unfold SX.Ob; first | trivial | omega | ((try simp only [SX.inK]); (try simp [SX.den, SX.IsU8, SX.AllP, *]); (try omega))), ?_⟩
  intro a3 w3 hr3 _
  have hF3 : Calls Try.prog 9 (denL [.sl 0 sF 0 0 1 1 1]).toArray w3 (FewPost w3 1 [L]) := few_top hr3.all.1.1 rfl ⟨ad, cp, rfl⟩
  refine post_call 9 [.sl 0 sF 0 0 1 1 1] hr3 (by first | exact wanted_none rfl | exact wanted_zero (hr3.env.same rfl rfl rfl rfl) rfl (by simp)) rfl (callable 9 Try.func9) (hF3) ?_
  rintro e4 w4 ⟨r4, rfl, hr4, hb4⟩
  refine ⟨_, rfl, ?_⟩
  have h4 := hr3.ret hb4 21 (.v (.bool r4)) rfl _ (hr3.all.below hb4) (by simp) rfl
  rw [allFew_one] at hr4
  rcases r4 with _ | _
  · refine seg cfg4_ok mixed PanicFree.body 1000 [true] [(23, true)] h4 (by first | trivial | exact HpRep.nil | assumption) (by kernel_rfl) fun s_ hs_ => ?_
    simp (maxSteps := 10000000) [SX.vc, SX.stop, SX.contS, SX.contB, SX.contW, SX.contR, SX.contD, SX.sxStep, SX.stepPure, SX.stepNew, SX.stepStore, SX.stepKeep, SX.guardIx, SX.evOp, SX.opd, SX.opds, SX.optOpd, SX.look, SX.putS, SX.gobs, SX.AllP, SX.leave, SX.lookC, SX.lookB, SX.lookT, SX.lookN, SX.findK, SX.evBuiltin, SX.ints, SX.foldI, SX.evBin, SX.evInt, SX.evStr, SX.evEq, SX.arith, SX.evLoad, SX.shapeUp, SX.evFieldAddr, SX.evField, SX.evIndexAddr, SX.evIndex, SX.evFill, SX.evBuild, SX.szs, SX.cellsV, SX.evNew, SX.evStore, SX.spliceL, SX.SV.cells, SX.evConv, SX.evSlice, SX.bnd, SX.evNil, SX.evUn, SX.evPick, SX.pickOpd, SX.popTo, SX.cnd, SX.env0, SX.TD.isAgg, SX.TD.isIface, SX.tails, SX.NotAgg, SX.evLookup, SX.evConvH, SX.evPtrEq, SX.isCells, SX.thaw, SX.frz, SX.fixB, SX.rootIx, SX.Froz, SX.frzStep, SX.fork, Go.Value.cells, Go.undef, cfg4]
    refine ⟨by (unfold SX.Ob; first | trivial | omega | ((try simp only [SX.inK]); (try simp [SX.den, SX.IsU8, SX.AllP, *]); (try omega))), ?_⟩
    intro a5 w5 hr5 _
    exact post_retn (end1 hr5 rfl rfl ⟨rfl, hr5.keeps.toBelow⟩).1
  have hn := hr4.1 rfl
  have h4' := h4.see [] trivial
  by_cases hcl : C.length ≤ 300
  rotate_left
  · have hcl' : (300 : Int) < C.length := by omega
    refine seg cfg4_ok mixed PanicFree.body 1000 [true] [(23, false)] h4' (by first | trivial | exact HpRep.nil | assumption) (by kernel_rfl) fun s_ hs_ => ?_
    simp (maxSteps := 10000000) [SX.vc, SX.stop, SX.contS, SX.contB, SX.contW, SX.contR, SX.contD, SX.sxStep, SX.stepPure, SX.stepNew, SX.stepStore, SX.stepKeep, SX.guardIx, SX.evOp, SX.opd, SX.opds, SX.optOpd, SX.look, SX.putS, SX.gobs, SX.AllP, SX.leave, SX.lookC, SX.lookB, SX.lookT, SX.lookN, SX.findK, SX.evBuiltin, SX.ints, SX.foldI, SX.evBin, SX.evInt, SX.evStr, SX.evEq, SX.arith, SX.evLoad, SX.shapeUp, SX.evFieldAddr, SX.evField, SX.evIndexAddr, SX.evIndex, SX.evFill, SX.evBuild, SX.szs, SX.cellsV, SX.evNew, SX.evStore, SX.spliceL, SX.SV.cells, SX.evConv, SX.evSlice, SX.bnd, SX.evNil, SX.evUn, SX.evPick, SX.pickOpd, SX.popTo, SX.cnd, SX.env0, SX.TD.isAgg, SX.TD.isIface, SX.tails, SX.NotAgg, SX.evLookup, SX.evConvH, SX.evPtrEq, SX.isCells, SX.thaw, SX.frz, SX.fixB, SX.rootIx, SX.Froz, SX.frzStep, SX.fork, Go.Value.cells, Go.undef, cfg4, hcl']
    refine ⟨by (unfold SX.Ob; first | trivial | omega | ((try simp only [SX.inK]); (try simp [SX.den, SX.IsU8, SX.AllP, *]); (try omega))), ?_⟩
    intro a5 w5 hr5 _
    exact post_retn (end1 hr5 rfl rfl ⟨rfl, hr5.keeps.toBelow⟩).1
  have hcl' : ¬ (300 : Int) < C.length := by omega
  refine seg cfg4_ok mixed PanicFree.body 1000 [false] [(23, false)] h4' (by first | trivial | exact HpRep.nil | assumption) (by kernel_rfl) fun cW hcW => ?_
  simp (maxSteps := 10000000) [SX.vc, SX.stop, SX.contS, SX.contB, SX.contW, SX.contR, SX.contD, SX.sxStep, SX.stepPure, SX.stepNew, SX.stepStore, SX.stepKeep, SX.guardIx, SX.evOp, SX.opd, SX.opds, SX.optOpd, SX.look, SX.putS, SX.gobs, SX.AllP, SX.leave, SX.lookC, SX.lookB, SX.lookT, SX.lookN, SX.findK, SX.evBuiltin, SX.ints, SX.foldI, SX.evBin, SX.evInt, SX.evStr, SX.evEq, SX.arith, SX.evLoad, SX.shapeUp, SX.evFieldAddr, SX.evField, SX.evIndexAddr, SX.evIndex, SX.evFill, SX.evBuild, SX.szs, SX.cellsV, SX.evNew, SX.evStore, SX.spliceL, SX.SV.cells, SX.evConv, SX.evSlice, SX.bnd, SX.evNil, SX.evUn, SX.evPick, SX.pickOpd, SX.popTo, SX.cnd, SX.env0, SX.TD.isAgg, SX.TD.isIface, SX.tails, SX.NotAgg, SX.evLookup, SX.evConvH, SX.evPtrEq, SX.isCells, SX.thaw, SX.frz, SX.fixB, SX.rootIx, SX.Froz, SX.frzStep, SX.fork, Go.Value.cells, Go.undef, cfg4, hcl']
  refine ⟨by (unfold SX.Ob; first | trivial | omega | ((try simp only [SX.inK]); (try simp [SX.den, SX.IsU8, SX.AllP, *]); (try omega))), ?_⟩
  intro a5 w5 hr5 _
  have sW := SO.rep_lt hr5.all.1.1
  have zW : w.heap.size ≤ cW := by
    have := h4'.keeps.size
    have : w.heap.size ≤ w4.heap.size := this
    omega
  refine post_loop (LastLoop w (.slice ad L.length cp) (.slice ad' C.length cp') L) L.length ⟨0, cW, [], _, rfl, by omega, (trivial : Chk []), lo_nil, zW, OwS.nil, hr5.re (by simp [envTo, SX.look]) (hr5.all.take 1) rfl rfl⟩ ?_
  rintro m a6 w6 ⟨k, cW, X, v6, rfl, hk, hX, hLo, zW, hO6, hr6⟩
  have hXl := lo_len hX hLo
  by_cases hlt : k < L.length
  · obtain ⟨b, o0, cap, u, fz, hP, hv, hrep⟩ := hL.opn hlt
    cases hv
    have hrep2 := SO.rep_same hrep (hr6.keeps.toBelow.block _ (SO.rep_lt hrep))
    obtain ⟨x, hx⟩ : ∃ x, nth ext0 L k = x := ⟨_, rfl⟩
    have hA7 : HpAll (frame0 w) w6 [(cW, true, .imap (wF X)), (b, false, .arr o0 L.length (fun j => extC (nth ext0 L j)) 5 u fz)] :=
      ⟨⟨hr6.all.1.1, hr6.all.1.2.1, fun e he => by simp at he; subst he; show cW ≠ b; omega⟩, HpAll.one hrep2⟩
    have h7 := (hr6.top 30 (.sl 1 b o0 0 L.length cp 5) rfl (by simp [den])).see _ hA7
    by_cases hg1 : (200 : Int) < x.lba
    · refine seg cfg4_ok mixed PanicFree.body 1000 [true, true] [(40, true), (45, true)] h7.rebase (by first | trivial | exact HpRep.nil | assumption) (by kernel_rfl) fun s_ hs_ => ?_
      simp (maxSteps := 10000000) [SX.vc, SX.stop, SX.contS, SX.contB, SX.contW, SX.contR, SX.contD, SX.sxStep, SX.stepPure, SX.stepNew, SX.stepStore, SX.stepKeep, SX.guardIx, SX.evOp, SX.opd, SX.opds, SX.optOpd, SX.look, SX.putS, SX.gobs, SX.AllP, SX.leave, SX.lookC, SX.lookB, SX.lookT, SX.lookN, SX.findK, SX.evBuiltin, SX.ints, SX.foldI, SX.evBin, SX.evInt, SX.evStr, SX.evEq, SX.arith, SX.evLoad, SX.shapeUp, SX.evFieldAddr, SX.evField, SX.evIndexAddr, SX.evIndex, SX.evFill, SX.evBuild, SX.szs, SX.cellsV, SX.evNew, SX.evStore, SX.spliceL, SX.SV.cells, SX.evConv, SX.evSlice, SX.bnd, SX.evNil, SX.evUn, SX.evPick, SX.pickOpd, SX.popTo, SX.cnd, SX.env0, SX.TD.isAgg, SX.TD.isIface, SX.tails, SX.NotAgg, SX.evLookup, SX.evConvH, SX.evPtrEq, SX.isCells, SX.thaw, SX.frz, SX.fixB, SX.rootIx, SX.Froz, SX.frzStep, SX.fork, Go.Value.cells, Go.undef, cfg4, extC, hx, hg1]
      refine ⟨by (unfold SX.Ob; first | trivial | omega | ((try simp only [SX.inK]); (try simp [SX.den, SX.IsU8, SX.AllP, *]); (try omega))), ?_⟩
      intro a8 w8 hr8' _
      have hr8 := h7.unbase hr8'
      exact post_rnd (L.length - (k + 1)) (by omega) ⟨k + 1, cW, X, v6, rfl, hlt, hX, hLo, zW, hO6.keep hr8'.keeps (by simp [frameAt, mutB]), hr8.re (by simp [envTo, SX.look, den]) (hr8.all.take 1) rfl rfl⟩
    by_cases hg2 : (50 : Int) < x.n
    · refine seg cfg4_ok mixed PanicFree.body 1000 [true, true] [(40, false), (45, true)] h7.rebase (by first | trivial | exact HpRep.nil | assumption) (by kernel_rfl) fun s_ hs_ => ?_
      simp (maxSteps := 10000000) [SX.vc, SX.stop, SX.contS, SX.contB, SX.contW, SX.contR, SX.contD, SX.sxStep, SX.stepPure, SX.stepNew, SX.stepStore, SX.stepKeep, SX.guardIx, SX.evOp, SX.opd, SX.opds, SX.optOpd, SX.look, SX.putS, SX.gobs, SX.AllP, SX.leave, SX.lookC, SX.lookB, SX.lookT, SX.lookN, SX.findK, SX.evBuiltin, SX.ints, SX.foldI, SX.evBin, SX.evInt, SX.evStr, SX.evEq, SX.arith, SX.evLoad, SX.shapeUp, SX.evFieldAddr, SX.evField, SX.evIndexAddr, SX.evIndex, SX.evFill, SX.evBuild, SX.szs, SX.cellsV, SX.evNew, SX.evStore, SX.spliceL, SX.SV.cells, SX.evConv, SX.evSlice, SX.bnd, SX.evNil, SX.evUn, SX.evPick, SX.pickOpd, SX.popTo, SX.cnd, SX.env0, SX.TD.isAgg, SX.TD.isIface, SX.tails, SX.NotAgg, SX.evLookup, SX.evConvH, SX.evPtrEq, SX.isCells, SX.thaw, SX.frz, SX.fixB, SX.rootIx, SX.Froz, SX.frzStep, SX.fork, Go.Value.cells, Go.undef, cfg4, extC, hx, hg1, hg2]
      refine ⟨by (unfold SX.Ob; first | trivial | omega | ((try simp only [SX.inK]); (try simp [SX.den, SX.IsU8, SX.AllP, *]); (try omega))), ?_⟩
      intro a8 w8 hr8' _
      have hr8 := h7.unbase hr8'
      exact post_rnd (L.length - (k + 1)) (by omega) ⟨k + 1, cW, X, v6, rfl, hlt, hX, hLo, zW, hO6.keep hr8'.keeps (by simp [frameAt, mutB]), hr8.re (by simp [envTo, SX.look, den]) (hr8.all.take 1) rfl rfl⟩
    have sW6 := SO.rep_lt hr6.all.1.1
    refine seg cfg4_ok mixed PanicFree.body 1000 [true] [(40, false), (45, false)] h7.rebase (by first | trivial | exact HpRep.nil | assumption) (by kernel_rfl) fun sX hsX => ?_
    simp (maxSteps := 10000000) [SX.vc, SX.stop, SX.contS, SX.contB, SX.contW, SX.contR, SX.contD, SX.sxStep, SX.stepPure, SX.stepNew, SX.stepStore, SX.stepKeep, SX.guardIx, SX.evOp, SX.opd, SX.opds, SX.optOpd, SX.look, SX.putS, SX.gobs, SX.AllP, SX.leave, SX.lookC, SX.lookB, SX.lookT, SX.lookN, SX.findK, SX.evBuiltin, SX.ints, SX.foldI, SX.evBin, SX.evInt, SX.evStr, SX.evEq, SX.arith, SX.evLoad, SX.shapeUp, SX.evFieldAddr, SX.evField, SX.evIndexAddr, SX.evIndex, SX.evFill, SX.evBuild, SX.szs, SX.cellsV, SX.evNew, SX.evStore, SX.spliceL, SX.SV.cells, SX.evConv, SX.evSlice, SX.bnd, SX.evNil, SX.evUn, SX.evPick, SX.pickOpd, SX.popTo, SX.cnd, SX.env0, SX.TD.isAgg, SX.TD.isIface, SX.tails, SX.NotAgg, SX.evLookup, SX.evConvH, SX.evPtrEq, SX.isCells, SX.thaw, SX.frz, SX.fixB, SX.rootIx, SX.Froz, SX.frzStep, SX.fork, Go.Value.cells, Go.undef, cfg4, extC, hx, hg1, hg2]
    refine ⟨by (unfold SX.Ob; first | trivial | omega | ((try simp only [SX.inK]); (try simp [SX.den, SX.IsU8, SX.AllP, *]); (try omega))), ?_⟩
    intro a8 w8 hr8' _
    have hr8 := h7.unbase hr8'
    have hOc := hO6.mono (P' := fun y => cW < y ∧ y < w6.heap.size) fun y hy hy' => ⟨hy', hy⟩
    have hO8 := hOc.keep hr8'.keeps (by simp [frameAt, mutB])
    refine post_call 11 [.ag (extC x)] hr8 (by first | exact wanted_none rfl | exact wanted_zero (hr8.env.same rfl rfl rfl rfl) rfl (by simp)) rfl (callable 11 Try.func11) (rmay_ok w8 x) ?_
    rintro e9 w9 ⟨rfl, hb9⟩
    refine ⟨_, rfl, ?_⟩
    have h9 := hr8.ret hb9 47 (.v (.bool (decide (May x)))) rfl _ (hr8.all.below hb9) (by simp) rfl
    have hO9 := hO8.below hb9
    by_cases hM : May x
    rotate_left
    · refine seg cfg4_ok mixed PanicFree.body 1000 [true] [(40, false), (45, false)] h9.rebase (by first | trivial | exact HpRep.nil | assumption) (by kernel_rfl) fun s_ hs_ => ?_
      simp (maxSteps := 10000000) [SX.vc, SX.stop, SX.contS, SX.contB, SX.contW, SX.contR, SX.contD, SX.sxStep, SX.stepPure, SX.stepNew, SX.stepStore, SX.stepKeep, SX.guardIx, SX.evOp, SX.opd, SX.opds, SX.optOpd, SX.look, SX.putS, SX.gobs, SX.AllP, SX.leave, SX.lookC, SX.lookB, SX.lookT, SX.lookN, SX.findK, SX.evBuiltin, SX.ints, SX.foldI, SX.evBin, SX.evInt, SX.evStr, SX.evEq, SX.arith, SX.evLoad, SX.shapeUp, SX.evFieldAddr, SX.evField, SX.evIndexAddr, SX.evIndex, SX.evFill, SX.evBuild, SX.szs, SX.cellsV, SX.evNew, SX.evStore, SX.spliceL, SX.SV.cells, SX.evConv, SX.evSlice, SX.bnd, SX.evNil, SX.evUn, SX.evPick, SX.pickOpd, SX.popTo, SX.cnd, SX.env0, SX.TD.isAgg, SX.TD.isIface, SX.tails, SX.NotAgg, SX.evLookup, SX.evConvH, SX.evPtrEq, SX.isCells, SX.thaw, SX.frz, SX.fixB, SX.rootIx, SX.Froz, SX.frzStep, SX.fork, Go.Value.cells, Go.undef, cfg4, hM]
      refine ⟨by (unfold SX.Ob; first | trivial | omega | ((try simp only [SX.inK]); (try simp [SX.den, SX.IsU8, SX.AllP, *]); (try omega))), ?_⟩
      intro a10 w10 hr10' _
      have hr10 := h9.unbase hr10'
      exact post_rnd (L.length - (k + 1)) (by omega) ⟨k + 1, cW, X, v6, rfl, hlt, hX, hLo, zW, (hO9.keep hr10'.keeps (by intro y hy; simp [frameAt, mutB] at hy; omega)).mono (fun _ _ hy => hy.1), hr10.re (by simp [envTo, SX.look, den]) (hr10.all.take 1) rfl rfl⟩
    have hMb := hM
    unfold May at hMb
    have z8 : w6.heap.size ≤ w8.heap.size := hr8'.keeps.size
    have hx5 := SO.rep_lt hr8.all.2.2.1.1
    refine seg cfg4_ok mixed PanicFree.body 1000 [false] [(40, false), (45, false)] h9.rebase (by first | trivial | exact HpRep.nil | assumption) (by kernel_rfl) fun sG hsG => ?_
    simp (maxSteps := 10000000) [SX.vc, SX.stop, SX.contS, SX.contB, SX.contW, SX.contR, SX.contD, SX.sxStep, SX.stepPure, SX.stepNew, SX.stepStore, SX.stepKeep, SX.guardIx, SX.evOp, SX.opd, SX.opds, SX.optOpd, SX.look, SX.putS, SX.gobs, SX.AllP, SX.leave, SX.lookC, SX.lookB, SX.lookT, SX.lookN, SX.findK, SX.evBuiltin, SX.ints, SX.foldI, SX.evBin, SX.evInt, SX.evStr, SX.evEq, SX.arith, SX.evLoad, SX.shapeUp, SX.evFieldAddr, SX.evField, SX.evIndexAddr, SX.evIndex, SX.evFill, SX.evBuild, SX.szs, SX.cellsV, SX.evNew, SX.evStore, SX.spliceL, SX.SV.cells, SX.evConv, SX.evSlice, SX.bnd, SX.evNil, SX.evUn, SX.evPick, SX.pickOpd, SX.popTo, SX.cnd, SX.env0, SX.TD.isAgg, SX.TD.isIface, SX.tails, SX.NotAgg, SX.evLookup, SX.evConvH, SX.evPtrEq, SX.isCells, SX.thaw, SX.frz, SX.fixB, SX.rootIx, SX.Froz, SX.frzStep, SX.fork, Go.Value.cells, Go.undef, cfg4, hM, extC]
    refine ⟨by (unfold SX.Ob; first | trivial | omega | ((try simp only [SX.inK]); (try simp [SX.den, SX.IsU8, SX.AllP, *]); (try omega))), ?_⟩
    intro a10 w10 hr10' _
    have hr10 := h9.unbase hr10'
    have hO10 := hO9.keep hr10'.keeps (by intro y hy; simp [frameAt, mutB] at hy; omega)
    have hS : RdE (fun _ => True) w10 (den (.sl 3 sG 0 0 1 1 5)) [x] := (RdS.lit (x := x) hr10.all.2.2.2.1.1 (by simp [extC])).mono fun _ _ _ => trivial
    have hPut : Calls Try.prog 12 (denL [.v v6, .sl 3 sG 0 0 1 1 5]).toArray w10 (PutR w10 X [x]) := Put_ok w10 _ _ X [x] hO10.rd hS (by simp; omega)
    refine post_call 12 [.v v6, .sl 3 sG 0 0 1 1 5] hr10 (wanted_none rfl) rfl (callable 12 Try.func12) hPut ?_
    have hAM : AllMay [x] := by simpa [AllMay] using hM
    rintro e11 w11 (⟨_, _, M, hPM, hMC, (⟨_, v11, rfl, hO11⟩ | ⟨hlen, _⟩), hb11⟩ | ⟨hno, _⟩)
    rotate_left
    · have h1 := (hPM.good hX hAM).2
      have h2 := join_len M
      simp at h1
      omega
    · exact absurd ⟨hX, hAM⟩ hno
    refine ⟨_, rfl, ?_⟩
    have h11 := hr10.ret hb11 54 (.tu [.v v11, .v (.int .i64 0)]) (v := .tuple #[v11, .int .i64 0]) (by simp [den, denL]) _ (hr10.all.below hb11) (by simp) rfl
    have t1 := SO.rep_lt hr10.all.1.1
    have t2 := SO.rep_lt hr10.all.2.2.1.1
    have t3 := SO.rep_lt hr10.all.2.2.2.1.1
    have hX1 : Chk (joinE M) := (join_good hMC).1.chk
    have hLo1 : Lo (joinE M) := put_lo hX hLo hM hPM (by omega) (by omega)
    have hWF : wK X x x.n.toNat = wF (joinE M) := put_wF hX hM hPM (by omega)
    refine seg cfg4_ok mixed PanicFree.body 1000 [false] [] h11.rebase (by first | trivial | exact HpRep.nil | assumption) (by kernel_rfl) fun s_ hs_ => ?_
    simp (maxSteps := 10000000) [SX.vc, SX.stop, SX.contS, SX.contB, SX.contW, SX.contR, SX.contD, SX.sxStep, SX.stepPure, SX.stepNew, SX.stepStore, SX.stepKeep, SX.guardIx, SX.evOp, SX.opd, SX.opds, SX.optOpd, SX.look, SX.putS, SX.gobs, SX.AllP, SX.leave, SX.lookC, SX.lookB, SX.lookT, SX.lookN, SX.findK, SX.evBuiltin, SX.ints, SX.foldI, SX.evBin, SX.evInt, SX.evStr, SX.evEq, SX.arith, SX.evLoad, SX.shapeUp, SX.evFieldAddr, SX.evField, SX.evIndexAddr, SX.evIndex, SX.evFill, SX.evBuild, SX.szs, SX.cellsV, SX.evNew, SX.evStore, SX.spliceL, SX.SV.cells, SX.evConv, SX.evSlice, SX.bnd, SX.evNil, SX.evUn, SX.evPick, SX.pickOpd, SX.popTo, SX.cnd, SX.env0, SX.TD.isAgg, SX.TD.isIface, SX.tails, SX.NotAgg, SX.evLookup, SX.evConvH, SX.evPtrEq, SX.isCells, SX.thaw, SX.frz, SX.fixB, SX.rootIx, SX.Froz, SX.frzStep, SX.fork, Go.Value.cells, Go.undef, cfg4]
    refine ⟨by (unfold SX.Ob; first | trivial | omega | ((try simp only [SX.inK]); (try simp [SX.den, SX.IsU8, SX.AllP, *]); (try omega))), ?_⟩
    intro a12 w12 hr12' _
    have hr12 := h11.unbase hr12'
    have hO12 := (hO11.keep hr12'.keeps (by intro y hy; simp [frameAt, mutB] at hy; omega)).mono (P' := fun y => sX < y) (fun y _ hy => by omega)
    obtain ⟨X1, hX1e⟩ : ∃ X1, X1 = joinE M := ⟨_, rfl⟩
    rw [← hX1e] at hX1 hLo1 hWF hO12
    have hcx : cW < sX := by omega
    clear hX1e hPut hPM hO11 hO10 hO9 hO8 hOc
    have hA12 : HpAll (frame0 w) w12 [(cW, true, .imap (wK X x 0)), (sX, true, .cells (extC x) 24)] := by
      rw [wK_zero]
      exact ⟨⟨hr12.all.1.1, hr12.all.1.2.1, fun e he => by simp at he; subst he; show cW ≠ sX; omega⟩, ⟨⟨hr12.all.2.2.1.1, hr12.all.2.2.1.2.1, by simp⟩, trivial⟩⟩
    refine post_loop (InLoop w (.slice (some ⟨b, o0, none⟩) L.length cp) (.slice ad' C.length cp') L k cW sX X X1 x) x.n.toNat ⟨0, v11, rfl, by omega, hO12, hr12.re (by simp [envTo, SX.look, den]) hA12 rfl rfl⟩ ?_
    rintro m a13 w13 ⟨j, vy, rfl, hj, hO13, hr13⟩
    by_cases hjn : j < x.n.toNat
    · have hj2 : (j : Int) < x.n := by omega
      by_cases hz : 0 ≤ x.zone
      · have hU : updFn (wK X x j) (x.lba + (j : Int)) (.ag [.v (.bool true), .v (.int .i64 x.ver), .v (.int .i64 x.zone), .v (.int .i64 (x.off + 16 * (j : Int)))]) = wK X x (j + 1) := by
          refine wK_upd ?_
          simp only [cellB, tellB, tell]
          rw [if_neg (by omega), show x.lba + (j : Int) - x.lba = j by omega]
        refine seg cfg4_ok mixed PanicFree.body 1000 [true, true] [] hr13.rebase (by first | trivial | exact HpRep.nil | assumption) (by kernel_rfl) fun s_ hs_ => ?_
        simp (maxSteps := 10000000) [SX.vc, SX.stop, SX.contS, SX.contB, SX.contW, SX.contR, SX.contD, SX.sxStep, SX.stepPure, SX.stepNew, SX.stepStore, SX.stepKeep, SX.guardIx, SX.evOp, SX.opd, SX.opds, SX.optOpd, SX.look, SX.putS, SX.gobs, SX.AllP, SX.leave, SX.lookC, SX.lookB, SX.lookT, SX.lookN, SX.findK, SX.evBuiltin, SX.ints, SX.foldI, SX.evBin, SX.evInt, SX.evStr, SX.evEq, SX.arith, SX.evLoad, SX.shapeUp, SX.evFieldAddr, SX.evField, SX.evIndexAddr, SX.evIndex, SX.evFill, SX.evBuild, SX.szs, SX.cellsV, SX.evNew, SX.evStore, SX.spliceL, SX.SV.cells, SX.evConv, SX.evSlice, SX.bnd, SX.evNil, SX.evUn, SX.evPick, SX.pickOpd, SX.popTo, SX.cnd, SX.env0, SX.TD.isAgg, SX.TD.isIface, SX.tails, SX.NotAgg, SX.evLookup, SX.evConvH, SX.evPtrEq, SX.isCells, SX.thaw, SX.frz, SX.fixB, SX.rootIx, SX.Froz, SX.frzStep, SX.fork, Go.Value.cells, Go.undef, cfg4, extC, hj2, hz]
        refine ⟨by (unfold SX.Ob; first | trivial | omega | ((try simp only [SX.inK]); (try simp [SX.den, SX.IsU8, SX.AllP, *]); (try omega))), ?_⟩
        intro a14 w14 hr14' _
        have hr14 := hr13.unbase hr14'
        have hA := hr14.all.take 2
        rw [hU] at hA
        have hO14 := hO13.keep hr14'.keeps (by intro y hy; simp [frameAt, mutB] at hy; omega)
        exact post_rnd (x.n.toNat - (j + 1)) (by omega) ⟨j + 1, vy, rfl, hjn, hO14, hr14.re (by simp [envTo, SX.look, den]) hA rfl rfl⟩
      · have hU : updFn (wK X x j) (x.lba + (j : Int)) (.ag [.v (.bool true), .v (.int .i64 x.ver), .v (.int .i64 x.zone), .v (.int .i64 0)]) = wK X x (j + 1) := by
          refine wK_upd ?_
          simp only [cellB, tellB, tell]
          rw [if_pos (by omega), show x.off = 0 by omega]
        refine seg cfg4_ok mixed PanicFree.body 1000 [true, false] [] hr13.rebase (by first | trivial | exact HpRep.nil | assumption) (by kernel_rfl) fun s_ hs_ => ?_
        simp (maxSteps := 10000000) [SX.vc, SX.stop, SX.contS, SX.contB, SX.contW, SX.contR, SX.contD, SX.sxStep, SX.stepPure, SX.stepNew, SX.stepStore, SX.stepKeep, SX.guardIx, SX.evOp, SX.opd, SX.opds, SX.optOpd, SX.look, SX.putS, SX.gobs, SX.AllP, SX.leave, SX.lookC, SX.lookB, SX.lookT, SX.lookN, SX.findK, SX.evBuiltin, SX.ints, SX.foldI, SX.evBin, SX.evInt, SX.evStr, SX.evEq, SX.arith, SX.evLoad, SX.shapeUp, SX.evFieldAddr, SX.evField, SX.evIndexAddr, SX.evIndex, SX.evFill, SX.evBuild, SX.szs, SX.cellsV, SX.evNew, SX.evStore, SX.spliceL, SX.SV.cells, SX.evConv, SX.evSlice, SX.bnd, SX.evNil, SX.evUn, SX.evPick, SX.pickOpd, SX.popTo, SX.cnd, SX.env0, SX.TD.isAgg, SX.TD.isIface, SX.tails, SX.NotAgg, SX.evLookup, SX.evConvH, SX.evPtrEq, SX.isCells, SX.thaw, SX.frz, SX.fixB, SX.rootIx, SX.Froz, SX.frzStep, SX.fork, Go.Value.cells, Go.undef, cfg4, extC, hj2, hz]
        refine ⟨by (unfold SX.Ob; first | trivial | omega | ((try simp only [SX.inK]); (try simp [SX.den, SX.IsU8, SX.AllP, *]); (try omega))), ?_⟩
        intro a14 w14 hr14' _
        have hr14 := hr13.unbase hr14'
        have hA := hr14.all.take 2
        rw [hU] at hA
        have hO14 := hO13.keep hr14'.keeps (by intro y hy; simp [frameAt, mutB] at hy; omega)
        exact post_rnd (x.n.toNat - (j + 1)) (by omega) ⟨j + 1, vy, rfl, hjn, hO14, hr14.re (by simp [envTo, SX.look, den]) hA rfl rfl⟩
    obtain rfl : j = x.n.toNat := by omega
    have hnn : ((x.n.toNat : Nat) : Int) = x.n := by omega
    rw [hnn, hWF] at hr13
    refine seg cfg4_ok mixed PanicFree.body 9 [false] [] hr13.rebase (by first | trivial | exact HpRep.nil | assumption) (by kernel_rfl) fun s_ hs_ => ?_
    simp (maxSteps := 10000000) [SX.vc, SX.stop, SX.contS, SX.contB, SX.contW, SX.contR, SX.contD, SX.sxStep, SX.stepPure, SX.stepNew, SX.stepStore, SX.stepKeep, SX.guardIx, SX.evOp, SX.opd, SX.opds, SX.optOpd, SX.look, SX.putS, SX.gobs, SX.AllP, SX.leave, SX.lookC, SX.lookB, SX.lookT, SX.lookN, SX.findK, SX.evBuiltin, SX.ints, SX.foldI, SX.evBin, SX.evInt, SX.evStr, SX.evEq, SX.arith, SX.evLoad, SX.shapeUp, SX.evFieldAddr, SX.evField, SX.evIndexAddr, SX.evIndex, SX.evFill, SX.evBuild, SX.szs, SX.cellsV, SX.evNew, SX.evStore, SX.spliceL, SX.SV.cells, SX.evConv, SX.evSlice, SX.bnd, SX.evNil, SX.evUn, SX.evPick, SX.pickOpd, SX.popTo, SX.cnd, SX.env0, SX.TD.isAgg, SX.TD.isIface, SX.tails, SX.NotAgg, SX.evLookup, SX.evConvH, SX.evPtrEq, SX.isCells, SX.thaw, SX.frz, SX.fixB, SX.rootIx, SX.Froz, SX.frzStep, SX.fork, Go.Value.cells, Go.undef, cfg4]
    refine ⟨by (unfold SX.Ob; first | trivial | omega | ((try simp only [SX.inK]); (try simp [SX.den, SX.IsU8, SX.AllP, *]); (try omega))), ?_⟩
    intro a14 w14 hr14' _
    have hr14 := hr13.unbase hr14'
    have hO14 := (hO13.keep hr14'.keeps (by intro y hy; simp [frameAt, mutB] at hy; omega)).mono (P' := fun y => cW < y) (fun y _ hy => by omega)
    have hX1l := lo_len hX1 hLo1
    refine post_cut (LastJ w (.slice (some ⟨b, o0, none⟩) L.length cp) (.slice ad' C.length cp') L k cW) 2 rfl ?_ fun a15 w15 hJ => ?_
    · by_cases hkc : k < C.length
      rotate_left
      · have h14 := hr14.see _ (hr14.all.take 1)
        refine seg cfg4_ok mixed PanicFree.body 1000 [false] [(90, false), (97, false)] h14.rebase (by first | trivial | exact HpRep.nil | assumption) (by kernel_rfl) fun s_ hs_ => ?_
        simp (maxSteps := 10000000) [SX.vc, SX.stop, SX.contS, SX.contB, SX.contW, SX.contR, SX.contD, SX.sxStep, SX.stepPure, SX.stepNew, SX.stepStore, SX.stepKeep, SX.guardIx, SX.evOp, SX.opd, SX.opds, SX.optOpd, SX.look, SX.putS, SX.gobs, SX.AllP, SX.leave, SX.lookC, SX.lookB, SX.lookT, SX.lookN, SX.findK, SX.evBuiltin, SX.ints, SX.foldI, SX.evBin, SX.evInt, SX.evStr, SX.evEq, SX.arith, SX.evLoad, SX.shapeUp, SX.evFieldAddr, SX.evField, SX.evIndexAddr, SX.evIndex, SX.evFill, SX.evBuild, SX.szs, SX.cellsV, SX.evNew, SX.evStore, SX.spliceL, SX.SV.cells, SX.evConv, SX.evSlice, SX.bnd, SX.evNil, SX.evUn, SX.evPick, SX.pickOpd, SX.popTo, SX.cnd, SX.env0, SX.TD.isAgg, SX.TD.isIface, SX.tails, SX.NotAgg, SX.evLookup, SX.evConvH, SX.evPtrEq, SX.isCells, SX.thaw, SX.frz, SX.fixB, SX.rootIx, SX.Froz, SX.frzStep, SX.fork, Go.Value.cells, Go.undef, cfg4, hkc]
        refine ⟨by (unfold SX.Ob; first | trivial | omega | ((try simp only [SX.inK]); (try simp [SX.den, SX.IsU8, SX.AllP, *]); (try omega))), ?_⟩
        intro a16 w16 hr16' _
        have hr16 := h14.unbase hr16'
        exact post_inv ⟨X1, vy, hX1, hLo1, hO14.keep hr16'.keeps (by simp [frameAt, mutB]), hr16.re (by simp [envTo, SX.look, den]) (hr16.all.take 1) rfl rfl⟩
      obtain ⟨b', o0', capc, u', fz', hP', hv', hrepc⟩ := hC.opn hkc
      cases hv'
      have zo : ∀ {w'}, Keeps (frame0 w) w' → (SO.arr o0' C.length (fun j => numC (nth 0 C j)) 1 u' fz').rep w' b' := fun hk => SO.rep_same hrepc (hk.toBelow.block _ (SO.rep_lt hrepc))
      obtain ⟨c, hc⟩ : ∃ c, nth 0 C k = c := ⟨_, rfl⟩
      have hA15 : HpAll (frame0 w) w14 [(cW, true, .imap (wF X1)), (b', false, .arr o0' C.length (fun j => numC (nth 0 C j)) 1 u' fz')] :=
        ⟨⟨hr14.all.1.1, hr14.all.1.2.1, fun e he => by simp at he; subst he; show cW ≠ b'; omega⟩, HpAll.one (zo hr14.keeps)⟩
      have h15 := (hr14.top 1 (.sl 1 b' o0' 0 C.length cp' 1) rfl (by simp [den])).see _ hA15
      by_cases hc0 : 0 ≤ c
      rotate_left
      · refine seg cfg4_ok mixed PanicFree.body 1000 [false] [(90, true), (97, false)] h15.rebase (by first | trivial | exact HpRep.nil | assumption) (by kernel_rfl) fun s_ hs_ => ?_
        simp (maxSteps := 10000000) [SX.vc, SX.stop, SX.contS, SX.contB, SX.contW, SX.contR, SX.contD, SX.sxStep, SX.stepPure, SX.stepNew, SX.stepStore, SX.stepKeep, SX.guardIx, SX.evOp, SX.opd, SX.opds, SX.optOpd, SX.look, SX.putS, SX.gobs, SX.AllP, SX.leave, SX.lookC, SX.lookB, SX.lookT, SX.lookN, SX.findK, SX.evBuiltin, SX.ints, SX.foldI, SX.evBin, SX.evInt, SX.evStr, SX.evEq, SX.arith, SX.evLoad, SX.shapeUp, SX.evFieldAddr, SX.evField, SX.evIndexAddr, SX.evIndex, SX.evFill, SX.evBuild, SX.szs, SX.cellsV, SX.evNew, SX.evStore, SX.spliceL, SX.SV.cells, SX.evConv, SX.evSlice, SX.bnd, SX.evNil, SX.evUn, SX.evPick, SX.pickOpd, SX.popTo, SX.cnd, SX.env0, SX.TD.isAgg, SX.TD.isIface, SX.tails, SX.NotAgg, SX.evLookup, SX.evConvH, SX.evPtrEq, SX.isCells, SX.thaw, SX.frz, SX.fixB, SX.rootIx, SX.Froz, SX.frzStep, SX.fork, Go.Value.cells, Go.undef, cfg4, hkc, numC, hc, hc0]
        refine ⟨by (unfold SX.Ob; first | trivial | omega | ((try simp only [SX.inK]); (try simp [SX.den, SX.IsU8, SX.AllP, *]); (try omega))), ?_⟩
        intro a16 w16 hr16' _
        have hr16 := h15.unbase hr16'
        exact post_inv ⟨X1, vy, hX1, hLo1, hO14.keep hr16'.keeps (by simp [frameAt, mutB]), hr16.re (by simp [envTo, SX.look, den]) (hr16.all.take 1) rfl rfl⟩
      by_cases hc1 : c < 250
      rotate_left
      · refine seg cfg4_ok mixed PanicFree.body 1000 [false] [(90, true), (97, true)] h15.rebase (by first | trivial | exact HpRep.nil | assumption) (by kernel_rfl) fun s_ hs_ => ?_
        simp (maxSteps := 10000000) [SX.vc, SX.stop, SX.contS, SX.contB, SX.contW, SX.contR, SX.contD, SX.sxStep, SX.stepPure, SX.stepNew, SX.stepStore, SX.stepKeep, SX.guardIx, SX.evOp, SX.opd, SX.opds, SX.optOpd, SX.look, SX.putS, SX.gobs, SX.AllP, SX.leave, SX.lookC, SX.lookB, SX.lookT, SX.lookN, SX.findK, SX.evBuiltin, SX.ints, SX.foldI, SX.evBin, SX.evInt, SX.evStr, SX.evEq, SX.arith, SX.evLoad, SX.shapeUp, SX.evFieldAddr, SX.evField, SX.evIndexAddr, SX.evIndex, SX.evFill, SX.evBuild, SX.szs, SX.cellsV, SX.evNew, SX.evStore, SX.spliceL, SX.SV.cells, SX.evConv, SX.evSlice, SX.bnd, SX.evNil, SX.evUn, SX.evPick, SX.pickOpd, SX.popTo, SX.cnd, SX.env0, SX.TD.isAgg, SX.TD.isIface, SX.tails, SX.NotAgg, SX.evLookup, SX.evConvH, SX.evPtrEq, SX.isCells, SX.thaw, SX.frz, SX.fixB, SX.rootIx, SX.Froz, SX.frzStep, SX.fork, Go.Value.cells, Go.undef, cfg4, hkc, numC, hc, hc0, hc1]
        refine ⟨by (unfold SX.Ob; first | trivial | omega | ((try simp only [SX.inK]); (try simp [SX.den, SX.IsU8, SX.AllP, *]); (try omega))), ?_⟩
        intro a16 w16 hr16' _
        have hr16 := h15.unbase hr16'
        exact post_inv ⟨X1, vy, hX1, hLo1, hO14.keep hr16'.keeps (by simp [frameAt, mutB]), hr16.re (by simp [envTo, SX.look, den]) (hr16.all.take 1) rfl rfl⟩
      refine seg cfg4_ok mixed PanicFree.body 1000 [true] [(90, true), (97, true)] h15.rebase (by first | trivial | exact HpRep.nil | assumption) (by kernel_rfl) fun s_ hs_ => ?_
      simp (maxSteps := 10000000) [SX.vc, SX.stop, SX.contS, SX.contB, SX.contW, SX.contR, SX.contD, SX.sxStep, SX.stepPure, SX.stepNew, SX.stepStore, SX.stepKeep, SX.guardIx, SX.evOp, SX.opd, SX.opds, SX.optOpd, SX.look, SX.putS, SX.gobs, SX.AllP, SX.leave, SX.lookC, SX.lookB, SX.lookT, SX.lookN, SX.findK, SX.evBuiltin, SX.ints, SX.foldI, SX.evBin, SX.evInt, SX.evStr, SX.evEq, SX.arith, SX.evLoad, SX.shapeUp, SX.evFieldAddr, SX.evField, SX.evIndexAddr, SX.evIndex, SX.evFill, SX.evBuild, SX.szs, SX.cellsV, SX.evNew, SX.evStore, SX.spliceL, SX.SV.cells, SX.evConv, SX.evSlice, SX.bnd, SX.evNil, SX.evUn, SX.evPick, SX.pickOpd, SX.popTo, SX.cnd, SX.env0, SX.TD.isAgg, SX.TD.isIface, SX.tails, SX.NotAgg, SX.evLookup, SX.evConvH, SX.evPtrEq, SX.isCells, SX.thaw, SX.frz, SX.fixB, SX.rootIx, SX.Froz, SX.frzStep, SX.fork, Go.Value.cells, Go.undef, cfg4, hkc, numC, hc, hc0, hc1]
      refine ⟨by (unfold SX.Ob; first | trivial | omega | ((try simp only [SX.inK]); (try simp [SX.den, SX.IsU8, SX.AllP, *]); (try omega))), ?_⟩
      intro a16 w16 hr16' _
      have hr16 := h15.unbase hr16'
      have hO16 := hO14.keep hr16'.keeps (by simp [frameAt, mutB])
      refine post_call 14 [.v vy, .v (.int .i64 c), .v (.int .i64 3)] hr16 (wanted_none rfl) rfl (callable 14 Try.func14) (Cut_ok w16 vy X1 c 3 hO16.rd (by omega)) ?_
      have hB : Blocks c 3 := by unfold Blocks; omega
      rintro e17 w17 (⟨_, _, i, k', v17, rfl, hIK, hO17, hb17⟩ | ⟨hno, _⟩)
      rotate_left
      · exact absurd ⟨hX1, hB⟩ hno
      refine ⟨_, rfl, ?_⟩
      have h17 := hr16.ret hb17 110 (.tu [.v v17, .v (.int .i64 0)]) (v := .tuple #[v17, .int .i64 0]) (by simp [den, denL]) _ (hr16.all.below hb17) (by simp) rfl
      obtain ⟨f1, f2, f3⟩ := cut_facts hX1 hB hLo1 hIK
      have t16 := SO.rep_lt hr16.all.1.1
      refine seg cfg4_ok mixed PanicFree.body 1000 [false] [] h17.rebase (by first | trivial | exact HpRep.nil | assumption) (by kernel_rfl) fun s_ hs_ => ?_
      simp (maxSteps := 10000000) [SX.vc, SX.stop, SX.contS, SX.contB, SX.contW, SX.contR, SX.contD, SX.sxStep, SX.stepPure, SX.stepNew, SX.stepStore, SX.stepKeep, SX.guardIx, SX.evOp, SX.opd, SX.opds, SX.optOpd, SX.look, SX.putS, SX.gobs, SX.AllP, SX.leave, SX.lookC, SX.lookB, SX.lookT, SX.lookN, SX.findK, SX.evBuiltin, SX.ints, SX.foldI, SX.evBin, SX.evInt, SX.evStr, SX.evEq, SX.arith, SX.evLoad, SX.shapeUp, SX.evFieldAddr, SX.evField, SX.evIndexAddr, SX.evIndex, SX.evFill, SX.evBuild, SX.szs, SX.cellsV, SX.evNew, SX.evStore, SX.spliceL, SX.SV.cells, SX.evConv, SX.evSlice, SX.bnd, SX.evNil, SX.evUn, SX.evPick, SX.pickOpd, SX.popTo, SX.cnd, SX.env0, SX.TD.isAgg, SX.TD.isIface, SX.tails, SX.NotAgg, SX.evLookup, SX.evConvH, SX.evPtrEq, SX.isCells, SX.thaw, SX.frz, SX.fixB, SX.rootIx, SX.Froz, SX.frzStep, SX.fork, Go.Value.cells, Go.undef, cfg4]
      refine ⟨by (unfold SX.Ob; first | trivial | omega | ((try simp only [SX.inK]); (try simp [SX.den, SX.IsU8, SX.AllP, *]); (try omega))), ?_⟩
      intro a18 w18 hr18' _
      have hr18 := h17.unbase hr18'
      have hO18 := (hO17.keep hr18'.keeps (by intro y hy; simp [frameAt, mutB] at hy; omega)).mono (P' := fun y => cW < y) (fun y _ hy => by omega)
      obtain ⟨X2, hX2e⟩ : ∃ X2, X2 = replL X1 c 3 [] i k' := ⟨_, rfl⟩
      rw [← hX2e] at f1 f2 f3 hO18
      clear hX2e hO17 hO16 hO14
      have hA18 : HpAll (frame0 w) w18 [(cW, true, .imap (dK X1 c 0))] := by rw [dK_zero]; exact hr18.all.take 1
      refine post_loop (DelLoop w (.slice (some ⟨b, o0, none⟩) L.length cp) (.slice (some ⟨b', o0', none⟩) C.length cp') L k cW X1 X2 c v17) 3 ⟨0, rfl, by omega, hO18, hr18.re (by simp [envTo, SX.look, den]) hA18 rfl rfl⟩ ?_
      rintro m a19 w19 ⟨d, rfl, hd, hO19, hr19⟩
      by_cases hdn : d < 3
      · have hA20 : HpAll (frame0 w) w19 [(cW, true, .imap (dK X1 c d)), (b', false, .arr o0' C.length (fun j => numC (nth 0 C j)) 1 u' fz')] :=
          ⟨⟨hr19.all.1.1, hr19.all.1.2.1, fun e he => by simp at he; subst he; show cW ≠ b'; omega⟩, HpAll.one (zo hr19.keeps)⟩
        have h20 := (hr19.top 1 (.sl 1 b' o0' 0 C.length cp' 1) rfl (by simp [den])).see _ hA20
        have hd3 : (d : Int) < 3 := by omega
        refine seg cfg4_ok mixed PanicFree.body 1000 [true] [] h20.rebase (by first | trivial | exact HpRep.nil | assumption) (by kernel_rfl) fun s_ hs_ => ?_
        simp (maxSteps := 10000000) [SX.vc, SX.stop, SX.contS, SX.contB, SX.contW, SX.contR, SX.contD, SX.sxStep, SX.stepPure, SX.stepNew, SX.stepStore, SX.stepKeep, SX.guardIx, SX.evOp, SX.opd, SX.opds, SX.optOpd, SX.look, SX.putS, SX.gobs, SX.AllP, SX.leave, SX.lookC, SX.lookB, SX.lookT, SX.lookN, SX.findK, SX.evBuiltin, SX.ints, SX.foldI, SX.evBin, SX.evInt, SX.evStr, SX.evEq, SX.arith, SX.evLoad, SX.shapeUp, SX.evFieldAddr, SX.evField, SX.evIndexAddr, SX.evIndex, SX.evFill, SX.evBuild, SX.szs, SX.cellsV, SX.evNew, SX.evStore, SX.spliceL, SX.SV.cells, SX.evConv, SX.evSlice, SX.bnd, SX.evNil, SX.evUn, SX.evPick, SX.pickOpd, SX.popTo, SX.cnd, SX.env0, SX.TD.isAgg, SX.TD.isIface, SX.tails, SX.NotAgg, SX.evLookup, SX.evConvH, SX.evPtrEq, SX.isCells, SX.thaw, SX.frz, SX.fixB, SX.rootIx, SX.Froz, SX.frzStep, SX.fork, Go.Value.cells, Go.undef, cfg4, hd3, numC, hc]
        refine ⟨by (unfold SX.Ob; first | trivial | omega | ((try simp only [SX.inK]); (try simp [SX.den, SX.IsU8, SX.AllP, *]); (try omega))), ?_⟩
        intro a21 w21 hr21' _
        have hr21 := h20.unbase hr21'
        have hO21 := hO19.keep hr21'.keeps (by simp [frameAt, mutB])
        refine post_delete (i := 0) (k := c + (d : Int)) hr21 rfl rfl rfl rfl Try.underlying37 Try.underlying3 hr21.all.1.1 fun o' hm => ?_
        rw [dK_del] at hm
        have hr22 := hr21.memK putBlk_keeps (fun y hy => .inl (by simp at hy; subst hy; exact zW)) [(cW, true, .imap (dK X1 c (d + 1)))] ⟨⟨hm, hr21.all.1.2.1, by simp⟩, trivial⟩
        have hO22 := hO21.keep (M := [cW]) (putBlk_keeps (o := o')) (by intro y hy; simp at hy; omega)
        refine seg cfg4_ok mixed PanicFree.body 1000 [] [] hr22.rebase (by first | trivial | exact HpRep.nil | assumption) (by kernel_rfl) fun s_ hs_ => ?_
        simp (maxSteps := 10000000) [SX.vc, SX.stop, SX.contS, SX.contB, SX.contW, SX.contR, SX.contD, SX.sxStep, SX.stepPure, SX.stepNew, SX.stepStore, SX.stepKeep, SX.guardIx, SX.evOp, SX.opd, SX.opds, SX.optOpd, SX.look, SX.putS, SX.gobs, SX.AllP, SX.leave, SX.lookC, SX.lookB, SX.lookT, SX.lookN, SX.findK, SX.evBuiltin, SX.ints, SX.foldI, SX.evBin, SX.evInt, SX.evStr, SX.evEq, SX.arith, SX.evLoad, SX.shapeUp, SX.evFieldAddr, SX.evField, SX.evIndexAddr, SX.evIndex, SX.evFill, SX.evBuild, SX.szs, SX.cellsV, SX.evNew, SX.evStore, SX.spliceL, SX.SV.cells, SX.evConv, SX.evSlice, SX.bnd, SX.evNil, SX.evUn, SX.evPick, SX.pickOpd, SX.popTo, SX.cnd, SX.env0, SX.TD.isAgg, SX.TD.isIface, SX.tails, SX.NotAgg, SX.evLookup, SX.evConvH, SX.evPtrEq, SX.isCells, SX.thaw, SX.frz, SX.fixB, SX.rootIx, SX.Froz, SX.frzStep, SX.fork, Go.Value.cells, Go.undef, cfg4]
        refine ⟨by (unfold SX.Ob; first | trivial | omega | ((try simp only [SX.inK]); (try simp [SX.den, SX.IsU8, SX.AllP, *]); (try omega))), ?_⟩
        intro a23 w23 hr23' _
        have hr23 := hr22.unbase hr23'
        exact post_rnd (3 - (d + 1)) (by omega) ⟨d + 1, rfl, by omega, hO22.keep hr23'.keeps (by simp [frameAt, mutB]), hr23.re (by simp [envTo, SX.look, den]) (hr23.all.take 1) rfl rfl⟩
      · obtain rfl : d = 3 := by omega
        rw [f3] at hr19
        refine seg cfg4_ok mixed PanicFree.body 1000 [false] [] hr19.rebase (by first | trivial | exact HpRep.nil | assumption) (by kernel_rfl) fun s_ hs_ => ?_
        simp (maxSteps := 10000000) [SX.vc, SX.stop, SX.contS, SX.contB, SX.contW, SX.contR, SX.contD, SX.sxStep, SX.stepPure, SX.stepNew, SX.stepStore, SX.stepKeep, SX.guardIx, SX.evOp, SX.opd, SX.opds, SX.optOpd, SX.look, SX.putS, SX.gobs, SX.AllP, SX.leave, SX.lookC, SX.lookB, SX.lookT, SX.lookN, SX.findK, SX.evBuiltin, SX.ints, SX.foldI, SX.evBin, SX.evInt, SX.evStr, SX.evEq, SX.arith, SX.evLoad, SX.shapeUp, SX.evFieldAddr, SX.evField, SX.evIndexAddr, SX.evIndex, SX.evFill, SX.evBuild, SX.szs, SX.cellsV, SX.evNew, SX.evStore, SX.spliceL, SX.SV.cells, SX.evConv, SX.evSlice, SX.bnd, SX.evNil, SX.evUn, SX.evPick, SX.pickOpd, SX.popTo, SX.cnd, SX.env0, SX.TD.isAgg, SX.TD.isIface, SX.tails, SX.NotAgg, SX.evLookup, SX.evConvH, SX.evPtrEq, SX.isCells, SX.thaw, SX.frz, SX.fixB, SX.rootIx, SX.Froz, SX.frzStep, SX.fork, Go.Value.cells, Go.undef, cfg4]
        refine ⟨by (unfold SX.Ob; first | trivial | omega | ((try simp only [SX.inK]); (try simp [SX.den, SX.IsU8, SX.AllP, *]); (try omega))), ?_⟩
        intro a20 w20 hr20' _
        have hr20 := hr19.unbase hr20'
        exact post_inv ⟨X2, v17, f1, f2, hO19.keep hr20'.keeps (by simp [frameAt, mutB]), hr20.re (by simp [envTo, SX.look, den]) (hr20.all.take 1) rfl rfl⟩
    obtain ⟨X', v', hX', hLo', hO15, hr15⟩ := hJ
    have hXl' := lo_len hX' hLo'
    refine seg cfg4_ok mixed PanicFree.body 1000 [] [] hr15.rebase (by first | trivial | exact HpRep.nil | assumption) (by kernel_rfl) fun s_ hs_ => ?_
    simp (maxSteps := 10000000) [SX.vc, SX.stop, SX.contS, SX.contB, SX.contW, SX.contR, SX.contD, SX.sxStep, SX.stepPure, SX.stepNew, SX.stepStore, SX.stepKeep, SX.guardIx, SX.evOp, SX.opd, SX.opds, SX.optOpd, SX.look, SX.putS, SX.gobs, SX.AllP, SX.leave, SX.lookC, SX.lookB, SX.lookT, SX.lookN, SX.findK, SX.evBuiltin, SX.ints, SX.foldI, SX.evBin, SX.evInt, SX.evStr, SX.evEq, SX.arith, SX.evLoad, SX.shapeUp, SX.evFieldAddr, SX.evField, SX.evIndexAddr, SX.evIndex, SX.evFill, SX.evBuild, SX.szs, SX.cellsV, SX.evNew, SX.evStore, SX.spliceL, SX.SV.cells, SX.evConv, SX.evSlice, SX.bnd, SX.evNil, SX.evUn, SX.evPick, SX.pickOpd, SX.popTo, SX.cnd, SX.env0, SX.TD.isAgg, SX.TD.isIface, SX.tails, SX.NotAgg, SX.evLookup, SX.evConvH, SX.evPtrEq, SX.isCells, SX.thaw, SX.frz, SX.fixB, SX.rootIx, SX.Froz, SX.frzStep, SX.fork, Go.Value.cells, Go.undef, cfg4]
    refine ⟨by (unfold SX.Ob; first | trivial | omega | ((try simp only [SX.inK]); (try simp [SX.den, SX.IsU8, SX.AllP, *]); (try omega))), ?_⟩
    intro a16 w16 hr16' _
    have hr16 := hr15.unbase hr16'
    have hO16 := hO15.keep hr16'.keeps (by simp [frameAt, mutB])
    refine post_call 10 [.v v'] hr16 (by first | exact wanted_none rfl | exact wanted_zero (hr16.env.same rfl rfl rfl rfl) rfl (by simp)) rfl (callable 10 Try.func10) (rcheck_ok w16 v' X' hO16.rd (by omega)) ?_
    rintro e17 w17 ⟨rfl, hb17⟩
    refine ⟨_, rfl, ?_⟩
    have h17 := hr16.ret hb17 128 (.v (.int .i64 (chkE X'))) rfl _ (hr16.all.below hb17) (by simp) rfl
    have hO17 := hO16.below hb17
    have hcX : chkE X' = 0 := if_pos hX'
    refine seg cfg4_ok mixed PanicFree.body 1000 [false] [] h17.rebase (by first | trivial | exact HpRep.nil | assumption) (by kernel_rfl) fun s_ hs_ => ?_
    simp (maxSteps := 10000000) [SX.vc, SX.stop, SX.contS, SX.contB, SX.contW, SX.contR, SX.contD, SX.sxStep, SX.stepPure, SX.stepNew, SX.stepStore, SX.stepKeep, SX.guardIx, SX.evOp, SX.opd, SX.opds, SX.optOpd, SX.look, SX.putS, SX.gobs, SX.AllP, SX.leave, SX.lookC, SX.lookB, SX.lookT, SX.lookN, SX.findK, SX.evBuiltin, SX.ints, SX.foldI, SX.evBin, SX.evInt, SX.evStr, SX.evEq, SX.arith, SX.evLoad, SX.shapeUp, SX.evFieldAddr, SX.evField, SX.evIndexAddr, SX.evIndex, SX.evFill, SX.evBuild, SX.szs, SX.cellsV, SX.evNew, SX.evStore, SX.spliceL, SX.SV.cells, SX.evConv, SX.evSlice, SX.bnd, SX.evNil, SX.evUn, SX.evPick, SX.pickOpd, SX.popTo, SX.cnd, SX.env0, SX.TD.isAgg, SX.TD.isIface, SX.tails, SX.NotAgg, SX.evLookup, SX.evConvH, SX.evPtrEq, SX.isCells, SX.thaw, SX.frz, SX.fixB, SX.rootIx, SX.Froz, SX.frzStep, SX.fork, Go.Value.cells, Go.undef, cfg4, hcX]
    refine ⟨by (unfold SX.Ob; first | trivial | omega | ((try simp only [SX.inK]); (try simp [SX.den, SX.IsU8, SX.AllP, *]); (try omega))), ?_⟩
    intro a18 w18 hr18' _
    have hr18 := h17.unbase hr18'
    exact post_rnd (L.length - (k + 1)) (by omega) ⟨k + 1, cW, X', v', rfl, hlt, hX', hLo', zW, hO17.keep hr18'.keeps (by simp [frameAt, mutB]), hr18.re (by simp [envTo, SX.look, den]) (hr18.all.take 1) rfl rfl⟩
  obtain rfl : k = L.length := by omega
  refine seg cfg4_ok mixed PanicFree.body 1000 [false] [] hr6.rebase (by first | trivial | exact HpRep.nil | assumption) (by kernel_rfl) fun s_ hs_ => ?_
  simp (maxSteps := 10000000) [SX.vc, SX.stop, SX.contS, SX.contB, SX.contW, SX.contR, SX.contD, SX.sxStep, SX.stepPure, SX.stepNew, SX.stepStore, SX.stepKeep, SX.guardIx, SX.evOp, SX.opd, SX.opds, SX.optOpd, SX.look, SX.putS, SX.gobs, SX.AllP, SX.leave, SX.lookC, SX.lookB, SX.lookT, SX.lookN, SX.findK, SX.evBuiltin, SX.ints, SX.foldI, SX.evBin, SX.evInt, SX.evStr, SX.evEq, SX.arith, SX.evLoad, SX.shapeUp, SX.evFieldAddr, SX.evField, SX.evIndexAddr, SX.evIndex, SX.evFill, SX.evBuild, SX.szs, SX.cellsV, SX.evNew, SX.evStore, SX.spliceL, SX.SV.cells, SX.evConv, SX.evSlice, SX.bnd, SX.evNil, SX.evUn, SX.evPick, SX.pickOpd, SX.popTo, SX.cnd, SX.env0, SX.TD.isAgg, SX.TD.isIface, SX.tails, SX.NotAgg, SX.evLookup, SX.evConvH, SX.evPtrEq, SX.isCells, SX.thaw, SX.frz, SX.fixB, SX.rootIx, SX.Froz, SX.frzStep, SX.fork, Go.Value.cells, Go.undef, cfg4]
  refine ⟨by (unfold SX.Ob; first | trivial | omega | ((try simp only [SX.inK]); (try simp [SX.den, SX.IsU8, SX.AllP, *]); (try omega))), ?_⟩
  intro a7 w7 hr7' _
  have hr7 := hr6.unbase hr7'
  have hO7 := hO6.keep hr7'.keeps (by simp [frameAt, mutB])
  have hN7 := wF_keys hX
  clear hr6 hO6
  refine post_loop (FinLoop w cW X v6) 260 ⟨0, rfl, by omega, hO7, hr7.re (by simp [envTo, SX.look]) hr7.all rfl rfl⟩ ?_
  rintro m a8 w8 ⟨j, rfl, hj, hO8, hr8⟩
  by_cases hj2 : j < 260
  · have hj3 : (j : Int) < 260 := by omega
    refine seg cfg4_ok mixed PanicFree.body 1000 [true] [] hr8.rebase (by first | trivial | exact HpRep.nil | assumption) (by kernel_rfl) fun s_ hs_ => ?_
    simp (maxSteps := 10000000) [SX.vc, SX.stop, SX.contS, SX.contB, SX.contW, SX.contR, SX.contD, SX.sxStep, SX.stepPure, SX.stepNew, SX.stepStore, SX.stepKeep, SX.guardIx, SX.evOp, SX.opd, SX.opds, SX.optOpd, SX.look, SX.putS, SX.gobs, SX.AllP, SX.leave, SX.lookC, SX.lookB, SX.lookT, SX.lookN, SX.findK, SX.evBuiltin, SX.ints, SX.foldI, SX.evBin, SX.evInt, SX.evStr, SX.evEq, SX.arith, SX.evLoad, SX.shapeUp, SX.evFieldAddr, SX.evField, SX.evIndexAddr, SX.evIndex, SX.evFill, SX.evBuild, SX.szs, SX.cellsV, SX.evNew, SX.evStore, SX.spliceL, SX.SV.cells, SX.evConv, SX.evSlice, SX.bnd, SX.evNil, SX.evUn, SX.evPick, SX.pickOpd, SX.popTo, SX.cnd, SX.env0, SX.TD.isAgg, SX.TD.isIface, SX.tails, SX.NotAgg, SX.evLookup, SX.evConvH, SX.evPtrEq, SX.isCells, SX.thaw, SX.frz, SX.fixB, SX.rootIx, SX.Froz, SX.frzStep, SX.fork, Go.Value.cells, Go.undef, cfg4, hj3]
    refine ⟨by (unfold SX.Ob; first | trivial | omega | ((try simp only [SX.inK]); (try simp [SX.den, SX.IsU8, SX.AllP, *]); (try omega))), ?_⟩
    intro a9 w9 hr9' ht9
    have hr9 := hr8.unbase hr9'
    have hO9 := hO8.keep hr9'.keeps (by simp [frameAt, mutB])
    have hAt := at_ok w9 v6 X j hO9.rd (by omega)
    rw [tellC_blk hX] at hAt
    rcases hbl : blk X (j : Int) with _ | t
    · have hW : wF X (j : Int) = none := by simp [wF, hbl]
      rw [hbl] at hAt
      refine post_both ?_ ?_
      · refine post_callD 13 [.v v6, .v (.int .i64 j)] hr9 rfl (by first | exact wanted_none rfl | exact wanted_zero (hr9.env.same rfl rfl rfl rfl) rfl (by simp)) rfl (callable 13 Try.func13) (hAt) ?_
        rintro e10 w10 ⟨rfl, hb10⟩
        have ht10 := HpRep_below ht9 hb10
        refine ⟨_, rfl, ht10, ?_⟩
        have hr10 := hr9.ret hb10 136 (.ag (tellB none)) rfl _ (hr9.all.below hb10) (by simp) rfl
        have hO10 := hO9.below hb10
        refine seg cfg4_ok mixed PanicFree.body 1000 [] [] hr10.rebase (by first | trivial | exact HpRep.nil | assumption) (by kernel_rfl) fun s_ hs_ => ?_
        simp (maxSteps := 10000000) [SX.vc, SX.stop, SX.contS, SX.contB, SX.contW, SX.contR, SX.contD, SX.sxStep, SX.stepPure, SX.stepNew, SX.stepStore, SX.stepKeep, SX.guardIx, SX.evOp, SX.opd, SX.opds, SX.optOpd, SX.look, SX.putS, SX.gobs, SX.AllP, SX.leave, SX.lookC, SX.lookB, SX.lookT, SX.lookN, SX.findK, SX.evBuiltin, SX.ints, SX.foldI, SX.evBin, SX.evInt, SX.evStr, SX.evEq, SX.arith, SX.evLoad, SX.shapeUp, SX.evFieldAddr, SX.evField, SX.evIndexAddr, SX.evIndex, SX.evFill, SX.evBuild, SX.szs, SX.cellsV, SX.evNew, SX.evStore, SX.spliceL, SX.SV.cells, SX.evConv, SX.evSlice, SX.bnd, SX.evNil, SX.evUn, SX.evPick, SX.pickOpd, SX.popTo, SX.cnd, SX.env0, SX.TD.isAgg, SX.TD.isIface, SX.tails, SX.NotAgg, SX.evLookup, SX.evConvH, SX.evPtrEq, SX.isCells, SX.thaw, SX.frz, SX.fixB, SX.rootIx, SX.Froz, SX.frzStep, SX.fork, Go.Value.cells, Go.undef, cfg4, hW]
        refine ⟨by (unfold SX.Ob; first | trivial | omega | ((try simp only [SX.inK]); (try simp [SX.den, SX.IsU8, SX.AllP, *]); (try omega))), ?_⟩
        intro a11 w11 hr11' ht11
        have hr11 := hr10.unbase hr11'
        have hO11 := hO10.keep hr11'.keeps (by simp [frameAt, mutB])
        have hr12 := (hr11.top 139 (.ag (tellB none)) rfl (by simp [den, denL, tellB])).top 136 (.ag (tellB none)) rfl (by simp [den, denL, tellB])
        have ht12 := ht11
        refine post_eqQ (C := cfg4) cfg4_ok (ok := fun t => t == 33) ok33 hr12 ht12 rfl rfl rfl rfl rfl (by kernel_rfl) (b := true) (eqBlk _ _ rfl rfl rfl rfl rfl) (by first | exact wanted_none rfl | exact wanted_zero (hr12.env.same rfl rfl rfl rfl) rfl (by simp)) rfl (by simp) rfl fun a_ hr13 => ?_
        simp only [SX.eqR] at hr13
        have ht13 := ht12
        refine seg cfg4_ok mixed PanicFree.body 1000 [false] [] hr13.rebase (by first | trivial | exact HpRep.nil | assumption) (by kernel_rfl) fun s_ hs_ => ?_
        simp (maxSteps := 10000000) [SX.vc, SX.stop, SX.contS, SX.contB, SX.contW, SX.contR, SX.contD, SX.sxStep, SX.stepPure, SX.stepNew, SX.stepStore, SX.stepKeep, SX.guardIx, SX.evOp, SX.opd, SX.opds, SX.optOpd, SX.look, SX.putS, SX.gobs, SX.AllP, SX.leave, SX.lookC, SX.lookB, SX.lookT, SX.lookN, SX.findK, SX.evBuiltin, SX.ints, SX.foldI, SX.evBin, SX.evInt, SX.evStr, SX.evEq, SX.arith, SX.evLoad, SX.shapeUp, SX.evFieldAddr, SX.evField, SX.evIndexAddr, SX.evIndex, SX.evFill, SX.evBuild, SX.szs, SX.cellsV, SX.evNew, SX.evStore, SX.spliceL, SX.SV.cells, SX.evConv, SX.evSlice, SX.bnd, SX.evNil, SX.evUn, SX.evPick, SX.pickOpd, SX.popTo, SX.cnd, SX.env0, SX.TD.isAgg, SX.TD.isIface, SX.tails, SX.NotAgg, SX.evLookup, SX.evConvH, SX.evPtrEq, SX.isCells, SX.thaw, SX.frz, SX.fixB, SX.rootIx, SX.Froz, SX.frzStep, SX.fork, Go.Value.cells, Go.undef, cfg4]
        refine ⟨by (unfold SX.Ob; first | trivial | omega | ((try simp only [SX.inK]); (try simp [SX.den, SX.IsU8, SX.AllP, *]); (try omega))), ?_⟩
        intro a14 w14 hr14' _
        have hr14 := hr13.unbase hr14'
        exact post_rnd (260 - (j + 1)) (by omega) ⟨j + 1, rfl, hj2, hO11.keep hr14'.keeps (by simp [frameAt, mutB]), hr14.re (by simp [envTo, SX.look, den]) (hr14.all.take 1) rfl rfl⟩
      · refine seg cfg4_ok mixed PanicFree.body 1000 [] [] hr9.rebase (by first | trivial | exact HpRep.nil | assumption) (by kernel_rfl) fun s_ hs_ => ?_
        simp (maxSteps := 10000000) [SX.vc, SX.stop, SX.contS, SX.contB, SX.contW, SX.contR, SX.contD, SX.sxStep, SX.stepPure, SX.stepNew, SX.stepStore, SX.stepKeep, SX.guardIx, SX.evOp, SX.opd, SX.opds, SX.optOpd, SX.look, SX.putS, SX.gobs, SX.AllP, SX.leave, SX.lookC, SX.lookB, SX.lookT, SX.lookN, SX.findK, SX.evBuiltin, SX.ints, SX.foldI, SX.evBin, SX.evInt, SX.evStr, SX.evEq, SX.arith, SX.evLoad, SX.shapeUp, SX.evFieldAddr, SX.evField, SX.evIndexAddr, SX.evIndex, SX.evFill, SX.evBuild, SX.szs, SX.cellsV, SX.evNew, SX.evStore, SX.spliceL, SX.SV.cells, SX.evConv, SX.evSlice, SX.bnd, SX.evNil, SX.evUn, SX.evPick, SX.pickOpd, SX.popTo, SX.cnd, SX.env0, SX.TD.isAgg, SX.TD.isIface, SX.tails, SX.NotAgg, SX.evLookup, SX.evConvH, SX.evPtrEq, SX.isCells, SX.thaw, SX.frz, SX.fixB, SX.rootIx, SX.Froz, SX.frzStep, SX.fork, Go.Value.cells, Go.undef, cfg4, hW]
        refine ⟨by (unfold SX.Ob; first | trivial | omega | ((try simp only [SX.inK]); (try simp [SX.den, SX.IsU8, SX.AllP, *]); (try omega))), ?_⟩
        intro a10 w10 hr10' ht10
        have hr10 := hr9.unbase hr10'
        have hO10 := hO9.keep hr10'.keeps (by simp [frameAt, mutB])
        have hAt2 := at_ok w10 v6 X j hO10.rd (by omega)
        rw [tellC_blk hX, hbl] at hAt2
        refine post_callD 13 [.v v6, .v (.int .i64 j)] hr10 rfl (by first | exact wanted_none rfl | exact wanted_zero (hr10.env.same rfl rfl rfl rfl) rfl (by simp)) rfl (callable 13 Try.func13) (hAt2) ?_
        rintro e11 w11 ⟨rfl, hb11⟩
        have ht11 := HpRep_below ht10 hb11
        refine ⟨_, rfl, ht11, ?_⟩
        have hr11 := hr10.ret hb11 136 (.ag (tellB none)) rfl _ (hr10.all.below hb11) (by simp) rfl
        have hO11 := hO10.below hb11
        have hr12 := (hr11.top 139 (.ag (tellB none)) rfl (by simp [den, denL, tellB])).top 136 (.ag (tellB none)) rfl (by simp [den, denL, tellB])
        have ht12 := ht11
        refine post_eqQ (C := cfg4) cfg4_ok (ok := fun t => t == 33) ok33 hr12 ht12 rfl rfl rfl rfl rfl (by kernel_rfl) (b := true) (eqBlk _ _ rfl rfl rfl rfl rfl) (by first | exact wanted_none rfl | exact wanted_zero (hr12.env.same rfl rfl rfl rfl) rfl (by simp)) rfl (by simp) rfl fun a_ hr13 => ?_
        simp only [SX.eqR] at hr13
        have ht13 := ht12
        refine seg cfg4_ok mixed PanicFree.body 1000 [false] [] hr13.rebase (by first | trivial | exact HpRep.nil | assumption) (by kernel_rfl) fun s_ hs_ => ?_
        simp (maxSteps := 10000000) [SX.vc, SX.stop, SX.contS, SX.contB, SX.contW, SX.contR, SX.contD, SX.sxStep, SX.stepPure, SX.stepNew, SX.stepStore, SX.stepKeep, SX.guardIx, SX.evOp, SX.opd, SX.opds, SX.optOpd, SX.look, SX.putS, SX.gobs, SX.AllP, SX.leave, SX.lookC, SX.lookB, SX.lookT, SX.lookN, SX.findK, SX.evBuiltin, SX.ints, SX.foldI, SX.evBin, SX.evInt, SX.evStr, SX.evEq, SX.arith, SX.evLoad, SX.shapeUp, SX.evFieldAddr, SX.evField, SX.evIndexAddr, SX.evIndex, SX.evFill, SX.evBuild, SX.szs, SX.cellsV, SX.evNew, SX.evStore, SX.spliceL, SX.SV.cells, SX.evConv, SX.evSlice, SX.bnd, SX.evNil, SX.evUn, SX.evPick, SX.pickOpd, SX.popTo, SX.cnd, SX.env0, SX.TD.isAgg, SX.TD.isIface, SX.tails, SX.NotAgg, SX.evLookup, SX.evConvH, SX.evPtrEq, SX.isCells, SX.thaw, SX.frz, SX.fixB, SX.rootIx, SX.Froz, SX.frzStep, SX.fork, Go.Value.cells, Go.undef, cfg4]
        refine ⟨by (unfold SX.Ob; first | trivial | omega | ((try simp only [SX.inK]); (try simp [SX.den, SX.IsU8, SX.AllP, *]); (try omega))), ?_⟩
        intro a14 w14 hr14' _
        have hr14 := hr13.unbase hr14'
        exact post_rnd (260 - (j + 1)) (by omega) ⟨j + 1, rfl, hj2, hO11.keep hr14'.keeps (by simp [frameAt, mutB]), hr14.re (by simp [envTo, SX.look, den]) (hr14.all.take 1) rfl rfl⟩
    · have hW : wF X (j : Int) = some (.ag (tellB (some t))) := by simp [wF, hbl, cellB]
      rw [hbl] at hAt
      refine post_both ?_ ?_
      · refine post_callD 13 [.v v6, .v (.int .i64 j)] hr9 rfl (by first | exact wanted_none rfl | exact wanted_zero (hr9.env.same rfl rfl rfl rfl) rfl (by simp)) rfl (callable 13 Try.func13) (hAt) ?_
        rintro e10 w10 ⟨rfl, hb10⟩
        have ht10 := HpRep_below ht9 hb10
        refine ⟨_, rfl, ht10, ?_⟩
        have hr10 := hr9.ret hb10 136 (.ag (tellB (some t))) rfl _ (hr9.all.below hb10) (by simp) rfl
        have hO10 := hO9.below hb10
        refine seg cfg4_ok mixed PanicFree.body 1000 [] [] hr10.rebase (by first | trivial | exact HpRep.nil | assumption) (by kernel_rfl) fun s_ hs_ => ?_
        simp (maxSteps := 10000000) [SX.vc, SX.stop, SX.contS, SX.contB, SX.contW, SX.contR, SX.contD, SX.sxStep, SX.stepPure, SX.stepNew, SX.stepStore, SX.stepKeep, SX.guardIx, SX.evOp, SX.opd, SX.opds, SX.optOpd, SX.look, SX.putS, SX.gobs, SX.AllP, SX.leave, SX.lookC, SX.lookB, SX.lookT, SX.lookN, SX.findK, SX.evBuiltin, SX.ints, SX.foldI, SX.evBin, SX.evInt, SX.evStr, SX.evEq, SX.arith, SX.evLoad, SX.shapeUp, SX.evFieldAddr, SX.evField, SX.evIndexAddr, SX.evIndex, SX.evFill, SX.evBuild, SX.szs, SX.cellsV, SX.evNew, SX.evStore, SX.spliceL, SX.SV.cells, SX.evConv, SX.evSlice, SX.bnd, SX.evNil, SX.evUn, SX.evPick, SX.pickOpd, SX.popTo, SX.cnd, SX.env0, SX.TD.isAgg, SX.TD.isIface, SX.tails, SX.NotAgg, SX.evLookup, SX.evConvH, SX.evPtrEq, SX.isCells, SX.thaw, SX.frz, SX.fixB, SX.rootIx, SX.Froz, SX.frzStep, SX.fork, Go.Value.cells, Go.undef, cfg4, hW]
        refine ⟨by (unfold SX.Ob; first | trivial | omega | ((try simp only [SX.inK]); (try simp [SX.den, SX.IsU8, SX.AllP, *]); (try omega))), ?_⟩
        intro a11 w11 hr11' ht11
        have hr11 := hr10.unbase hr11'
        have hO11 := hO10.keep hr11'.keeps (by simp [frameAt, mutB])
        have hr12 := (hr11.top 139 (.ag (tellB (some t))) rfl (by simp [den, denL, tellB])).top 136 (.ag (tellB (some t))) rfl (by simp [den, denL, tellB])
        have ht12 := ht11
        refine post_eqQ (C := cfg4) cfg4_ok (ok := fun t => t == 33) ok33 hr12 ht12 rfl rfl rfl rfl rfl (by kernel_rfl) (b := true) (eqBlk _ _ rfl rfl rfl rfl rfl) (by first | exact wanted_none rfl | exact wanted_zero (hr12.env.same rfl rfl rfl rfl) rfl (by simp)) rfl (by simp) rfl fun a_ hr13 => ?_
        simp only [SX.eqR] at hr13
        have ht13 := ht12
        refine seg cfg4_ok mixed PanicFree.body 1000 [false] [] hr13.rebase (by first | trivial | exact HpRep.nil | assumption) (by kernel_rfl) fun s_ hs_ => ?_
        simp (maxSteps := 10000000) [SX.vc, SX.stop, SX.contS, SX.contB, SX.contW, SX.contR, SX.contD, SX.sxStep, SX.stepPure, SX.stepNew, SX.stepStore, SX.stepKeep, SX.guardIx, SX.evOp, SX.opd, SX.opds, SX.optOpd, SX.look, SX.putS, SX.gobs, SX.AllP, SX.leave, SX.lookC, SX.lookB, SX.lookT, SX.lookN, SX.findK, SX.evBuiltin, SX.ints, SX.foldI, SX.evBin, SX.evInt, SX.evStr, SX.evEq, SX.arith, SX.evLoad, SX.shapeUp, SX.evFieldAddr, SX.evField, SX.evIndexAddr, SX.evIndex, SX.evFill, SX.evBuild, SX.szs, SX.cellsV, SX.evNew, SX.evStore, SX.spliceL, SX.SV.cells, SX.evConv, SX.evSlice, SX.bnd, SX.evNil, SX.evUn, SX.evPick, SX.pickOpd, SX.popTo, SX.cnd, SX.env0, SX.TD.isAgg, SX.TD.isIface, SX.tails, SX.NotAgg, SX.evLookup, SX.evConvH, SX.evPtrEq, SX.isCells, SX.thaw, SX.frz, SX.fixB, SX.rootIx, SX.Froz, SX.frzStep, SX.fork, Go.Value.cells, Go.undef, cfg4]
        refine ⟨by (unfold SX.Ob; first | trivial | omega | ((try simp only [SX.inK]); (try simp [SX.den, SX.IsU8, SX.AllP, *]); (try omega))), ?_⟩
        intro a14 w14 hr14' _
        have hr14 := hr13.unbase hr14'
        exact post_rnd (260 - (j + 1)) (by omega) ⟨j + 1, rfl, hj2, hO11.keep hr14'.keeps (by simp [frameAt, mutB]), hr14.re (by simp [envTo, SX.look, den]) (hr14.all.take 1) rfl rfl⟩
      · refine seg cfg4_ok mixed PanicFree.body 1000 [] [] hr9.rebase (by first | trivial | exact HpRep.nil | assumption) (by kernel_rfl) fun s_ hs_ => ?_
        simp (maxSteps := 10000000) [SX.vc, SX.stop, SX.contS, SX.contB, SX.contW, SX.contR, SX.contD, SX.sxStep, SX.stepPure, SX.stepNew, SX.stepStore, SX.stepKeep, SX.guardIx, SX.evOp, SX.opd, SX.opds, SX.optOpd, SX.look, SX.putS, SX.gobs, SX.AllP, SX.leave, SX.lookC, SX.lookB, SX.lookT, SX.lookN, SX.findK, SX.evBuiltin, SX.ints, SX.foldI, SX.evBin, SX.evInt, SX.evStr, SX.evEq, SX.arith, SX.evLoad, SX.shapeUp, SX.evFieldAddr, SX.evField, SX.evIndexAddr, SX.evIndex, SX.evFill, SX.evBuild, SX.szs, SX.cellsV, SX.evNew, SX.evStore, SX.spliceL, SX.SV.cells, SX.evConv, SX.evSlice, SX.bnd, SX.evNil, SX.evUn, SX.evPick, SX.pickOpd, SX.popTo, SX.cnd, SX.env0, SX.TD.isAgg, SX.TD.isIface, SX.tails, SX.NotAgg, SX.evLookup, SX.evConvH, SX.evPtrEq, SX.isCells, SX.thaw, SX.frz, SX.fixB, SX.rootIx, SX.Froz, SX.frzStep, SX.fork, Go.Value.cells, Go.undef, cfg4, hW]
        refine ⟨by (unfold SX.Ob; first | trivial | omega | ((try simp only [SX.inK]); (try simp [SX.den, SX.IsU8, SX.AllP, *]); (try omega))), ?_⟩
        intro a10 w10 hr10' ht10
        have hr10 := hr9.unbase hr10'
        have hO10 := hO9.keep hr10'.keeps (by simp [frameAt, mutB])
        have hAt2 := at_ok w10 v6 X j hO10.rd (by omega)
        rw [tellC_blk hX, hbl] at hAt2
        refine post_callD 13 [.v v6, .v (.int .i64 j)] hr10 rfl (by first | exact wanted_none rfl | exact wanted_zero (hr10.env.same rfl rfl rfl rfl) rfl (by simp)) rfl (callable 13 Try.func13) (hAt2) ?_
        rintro e11 w11 ⟨rfl, hb11⟩
        have ht11 := HpRep_below ht10 hb11
        refine ⟨_, rfl, ht11, ?_⟩
        have hr11 := hr10.ret hb11 136 (.ag (tellB (some t))) rfl _ (hr10.all.below hb11) (by simp) rfl
        have hO11 := hO10.below hb11
        have hr12 := (hr11.top 139 (.ag (tellB (some t))) rfl (by simp [den, denL, tellB])).top 136 (.ag (tellB (some t))) rfl (by simp [den, denL, tellB])
        have ht12 := ht11
        refine post_eqQ (C := cfg4) cfg4_ok (ok := fun t => t == 33) ok33 hr12 ht12 rfl rfl rfl rfl rfl (by kernel_rfl) (b := true) (eqBlk _ _ rfl rfl rfl rfl rfl) (by first | exact wanted_none rfl | exact wanted_zero (hr12.env.same rfl rfl rfl rfl) rfl (by simp)) rfl (by simp) rfl fun a_ hr13 => ?_
        simp only [SX.eqR] at hr13
        have ht13 := ht12
        refine seg cfg4_ok mixed PanicFree.body 1000 [false] [] hr13.rebase (by first | trivial | exact HpRep.nil | assumption) (by kernel_rfl) fun s_ hs_ => ?_
        simp (maxSteps := 10000000) [SX.vc, SX.stop, SX.contS, SX.contB, SX.contW, SX.contR, SX.contD, SX.sxStep, SX.stepPure, SX.stepNew, SX.stepStore, SX.stepKeep, SX.guardIx, SX.evOp, SX.opd, SX.opds, SX.optOpd, SX.look, SX.putS, SX.gobs, SX.AllP, SX.leave, SX.lookC, SX.lookB, SX.lookT, SX.lookN, SX.findK, SX.evBuiltin, SX.ints, SX.foldI, SX.evBin, SX.evInt, SX.evStr, SX.evEq, SX.arith, SX.evLoad, SX.shapeUp, SX.evFieldAddr, SX.evField, SX.evIndexAddr, SX.evIndex, SX.evFill, SX.evBuild, SX.szs, SX.cellsV, SX.evNew, SX.evStore, SX.spliceL, SX.SV.cells, SX.evConv, SX.evSlice, SX.bnd, SX.evNil, SX.evUn, SX.evPick, SX.pickOpd, SX.popTo, SX.cnd, SX.env0, SX.TD.isAgg, SX.TD.isIface, SX.tails, SX.NotAgg, SX.evLookup, SX.evConvH, SX.evPtrEq, SX.isCells, SX.thaw, SX.frz, SX.fixB, SX.rootIx, SX.Froz, SX.frzStep, SX.fork, Go.Value.cells, Go.undef, cfg4]
        refine ⟨by (unfold SX.Ob; first | trivial | omega | ((try simp only [SX.inK]); (try simp [SX.den, SX.IsU8, SX.AllP, *]); (try omega))), ?_⟩
        intro a14 w14 hr14' _
        have hr14 := hr13.unbase hr14'
        exact post_rnd (260 - (j + 1)) (by omega) ⟨j + 1, rfl, hj2, hO11.keep hr14'.keeps (by simp [frameAt, mutB]), hr14.re (by simp [envTo, SX.look, den]) (hr14.all.take 1) rfl rfl⟩
  · obtain rfl : j = 260 := by omega
    refine seg cfg4_ok mixed PanicFree.body 1000 [false] [(143, true)] hr8.rebase (by first | trivial | exact HpRep.nil | assumption) (by kernel_rfl) fun s_ hs_ => ?_
    simp (maxSteps := 10000000) [SX.vc, SX.stop, SX.contS, SX.contB, SX.contW, SX.contR, SX.contD, SX.sxStep, SX.stepPure, SX.stepNew, SX.stepStore, SX.stepKeep, SX.guardIx, SX.evOp, SX.opd, SX.opds, SX.optOpd, SX.look, SX.putS, SX.gobs, SX.AllP, SX.leave, SX.lookC, SX.lookB, SX.lookT, SX.lookN, SX.findK, SX.evBuiltin, SX.ints, SX.foldI, SX.evBin, SX.evInt, SX.evStr, SX.evEq, SX.arith, SX.evLoad, SX.shapeUp, SX.evFieldAddr, SX.evField, SX.evIndexAddr, SX.evIndex, SX.evFill, SX.evBuild, SX.szs, SX.cellsV, SX.evNew, SX.evStore, SX.spliceL, SX.SV.cells, SX.evConv, SX.evSlice, SX.bnd, SX.evNil, SX.evUn, SX.evPick, SX.pickOpd, SX.popTo, SX.cnd, SX.env0, SX.TD.isAgg, SX.TD.isIface, SX.tails, SX.NotAgg, SX.evLookup, SX.evConvH, SX.evPtrEq, SX.isCells, SX.thaw, SX.frz, SX.fixB, SX.rootIx, SX.Froz, SX.frzStep, SX.fork, Go.Value.cells, Go.undef, cfg4]
    refine ⟨by (unfold SX.Ob; first | trivial | omega | ((try simp only [SX.inK]); (try simp [SX.den, SX.IsU8, SX.AllP, *]); (try omega))), ?_⟩
    intro a9 w9 hr9' _
    have hr9 := hr8.unbase hr9'
    have hO9 := hO8.keep hr9'.keeps (by simp [frameAt, mutB])
    refine post_call 15 [.v v6] hr9 (by first | exact wanted_none rfl | exact wanted_zero (hr9.env.same rfl rfl rfl rfl) rfl (by simp)) rfl (callable 15 Try.func15) (many_ok w9 v6 X hO9.rd (by omega)) ?_
    rintro e10 w10 ⟨rfl, hb10⟩
    refine ⟨_, rfl, ?_⟩
    have h10 := hr9.ret hb10 145 (.v (.int .i64 (manyE X))) rfl _ (hr9.all.below hb10) (by simp) rfl
    refine seg cfg4_ok mixed PanicFree.body 1000 [] [(143, true)] h10 (by first | trivial | exact HpRep.nil | assumption) (by kernel_rfl) fun s_ hs_ => ?_
    simp (maxSteps := 10000000) [SX.vc, SX.stop, SX.contS, SX.contB, SX.contW, SX.contR, SX.contD, SX.sxStep, SX.stepPure, SX.stepNew, SX.stepStore, SX.stepKeep, SX.guardIx, SX.evOp, SX.opd, SX.opds, SX.optOpd, SX.look, SX.putS, SX.gobs, SX.AllP, SX.leave, SX.lookC, SX.lookB, SX.lookT, SX.lookN, SX.findK, SX.evBuiltin, SX.ints, SX.foldI, SX.evBin, SX.evInt, SX.evStr, SX.evEq, SX.arith, SX.evLoad, SX.shapeUp, SX.evFieldAddr, SX.evField, SX.evIndexAddr, SX.evIndex, SX.evFill, SX.evBuild, SX.szs, SX.cellsV, SX.evNew, SX.evStore, SX.spliceL, SX.SV.cells, SX.evConv, SX.evSlice, SX.bnd, SX.evNil, SX.evUn, SX.evPick, SX.pickOpd, SX.popTo, SX.cnd, SX.env0, SX.TD.isAgg, SX.TD.isIface, SX.tails, SX.NotAgg, SX.evLookup, SX.evConvH, SX.evPtrEq, SX.isCells, SX.thaw, SX.frz, SX.fixB, SX.rootIx, SX.Froz, SX.frzStep, SX.fork, Go.Value.cells, Go.undef, cfg4]
    refine ⟨by (unfold SX.Ob; first | trivial | omega | ((try simp only [SX.inK]); (try simp [SX.den, SX.IsU8, SX.AllP, *]); (try omega))), ?_⟩
    intro a11 w11 hr11 _
    have hms : ((blks X).length : Int) = manyE X := by rw [many_sum hX]; exact blks_len hX.all
    refine post_maplen (blks X) hr11 (wanted_zero (hr11.env.same rfl rfl rfl rfl) rfl (by simp)) rfl rfl rfl Try.underlying37 hr11.all.1.1 (blks_nodup hX.good) hN7 (by simp) rfl fun a12 hr12 => ?_
    rw [hms] at hr12
    refine seg cfg4_ok mixed PanicFree.body 1000 [] [(143, true)] hr12 (by first | trivial | exact HpRep.nil | assumption) (by kernel_rfl) fun s_ hs_ => ?_
    simp (maxSteps := 10000000) [SX.vc, SX.stop, SX.contS, SX.contB, SX.contW, SX.contR, SX.contD, SX.sxStep, SX.stepPure, SX.stepNew, SX.stepStore, SX.stepKeep, SX.guardIx, SX.evOp, SX.opd, SX.opds, SX.optOpd, SX.look, SX.putS, SX.gobs, SX.AllP, SX.leave, SX.lookC, SX.lookB, SX.lookT, SX.lookN, SX.findK, SX.evBuiltin, SX.ints, SX.foldI, SX.evBin, SX.evInt, SX.evStr, SX.evEq, SX.arith, SX.evLoad, SX.shapeUp, SX.evFieldAddr, SX.evField, SX.evIndexAddr, SX.evIndex, SX.evFill, SX.evBuild, SX.szs, SX.cellsV, SX.evNew, SX.evStore, SX.spliceL, SX.SV.cells, SX.evConv, SX.evSlice, SX.bnd, SX.evNil, SX.evUn, SX.evPick, SX.pickOpd, SX.popTo, SX.cnd, SX.env0, SX.TD.isAgg, SX.TD.isIface, SX.tails, SX.NotAgg, SX.evLookup, SX.evConvH, SX.evPtrEq, SX.isCells, SX.thaw, SX.frz, SX.fixB, SX.rootIx, SX.Froz, SX.frzStep, SX.fork, Go.Value.cells, Go.undef, cfg4]
    refine ⟨by (unfold SX.Ob; first | trivial | omega | ((try simp only [SX.inK]); (try simp [SX.den, SX.IsU8, SX.AllP, *]); (try omega))), ?_⟩
    intro a13 w13 hr13 _
    exact post_retn (end1 hr13 rfl rfl ⟨rfl, hr13.keeps.toBelow⟩).1
end Go.Proofs
