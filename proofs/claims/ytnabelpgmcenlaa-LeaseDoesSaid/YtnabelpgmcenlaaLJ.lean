/- Leases: slices.Delete of one thing; Revoke. -/
import Derived.Test.YtnabelpgmcenlaaLI
namespace Go.Proofs
set_option linter.unusedVariables false
set_option linter.unusedSimpArgs false
open Go Go.SX Go.RowKit

/-- append of a part of the same array, with room: the world behind it. -/
theorem RepX.appSelf {P : Program} {C : Cfg} (htt : TTok P C.tt) {F : Fr} {st : St} {o : Oper} {a : Act} {w : World} (hr : RepX F st a w) {t t' : TypeId} {i b len cap base2 n cap2 sz N u : Nat} {row : Nat → List SV}
    (he : evApp st o.op = some (.sl i b 0 0 len cap sz, .sl i b 0 base2 n cap2 sz, t, t')) {e e' : TypeId} {ti ti' te : TI} (ht : lookT C.tt t = some ti) (hd1 : ti.d = .slice e) (ht' : lookT C.tt t' = some ti') (hd2 : ti'.d = .slice e') (hte : lookT C.tt e = some te) (hz : te.zero.cells.size = te.sz) (hsz : te.sz = sz) (hby : te.by_ ≠ 0)
    (hi : st.hp[i]? = some (b, true, .arr 0 N row sz u (0, 0))) (hroom : len + n ≤ cap) (hcap : cap ≤ N) (hn : base2 + n ≤ N) (hna : ∀ j, j < n → ∀ x ∈ row (base2 + j), NotAgg (den x)) :
    ∃ w', (execOp a.eval o).run P w = .ok (.value (.slice (some ⟨b, 0, none⟩) (len + n) cap)) w' ∧ RepX F { st with hp := st.hp.set i (b, true, .arr 0 N (copyRow row row len base2 n) sz u (0, 0)) } a w' := by
  subst hsz
  obtain ⟨c, hb, hr1⟩ := hr.hp i b true _ hi
  have hA : AppArgs P w e te (.slice (some ⟨b, 0 + base2 * te.sz, none⟩) n cap2) row base2 n := ⟨htt _ _ hte, hz, hby, b, c, cap2, u, (0, 0), 0, N, rfl, hb, hr1, hn⟩
  have h1 := Go.SX.run_append_room (P := P) (w := w) (ty := o.type) (len := len) ((htt _ _ ht).slice hd1) ((htt _ _ ht').slice hd2) hA hb hr1 hcap hroom hna
  have e1 := evApp_sound (P := P) (hr.env.same (st' := st) rfl rfl rfl rfl) he w
  simp only [den, Nat.zero_mul, Nat.zero_add] at e1 h1
  rw [h1] at e1
  simp only [Result.andThen_ok] at e1
  have hm := hr.mem.store hi (new := .arr 0 N (copyRow row row len base2 n) te.sz u (0, 0)) (o := .cells (putAll c (len * te.sz) (rowsOf row base2 n)) u (0, 0)) ⟨_, putBlk_same (lt_of_heap hb), hr1.of_room (by omega) fun q hq => (hr1.2 (base2 + q) (by omega)).1⟩
  refine ⟨_, e1, Rep.of_mem (hr.env.same rfl rfl rfl rfl) ?_⟩
  refine ⟨hm.hp, hm.mu, hm.nd, ?_, hm.kp⟩
  simp [putBlk_size]

/-- append of a part of the same array, in a region that draws. -/
theorem post_appSelfD {P : Program} {C : Cfg} (htt : TTok P C.tt) {Q : Exit → Act → World → Prop} {F : Fr} {st : St} {all : Array Oper} {hp0 : Hp} {ix : Nat} {l : List (Nat × Nat)} {k : List W} {o : Oper} {a : Act} {w : World} (hr : RepX F st a w) (hix : all[ix]? = some o) (hf : frz hp0 = []) (hw : o.guard = none) {dd : Nat} (hdst : o.dst = some dd) (hdn : dd < st.nt) (hks : st.ks.all (fun r => r.tj != dd) = true) {t t' : TypeId} {i b len cap base2 n cap2 sz N u : Nat} {row : Nat → List SV}
    (he : evApp st o.op = some (.sl i b 0 0 len cap sz, .sl i b 0 base2 n cap2 sz, t, t')) {e e' : TypeId} {ti ti' te : TI} (ht : lookT C.tt t = some ti) (hd1 : ti.d = .slice e) (ht' : lookT C.tt t' = some ti') (hd2 : ti'.d = .slice e') (hte : lookT C.tt e = some te) (hz : te.zero.cells.size = te.sz) (hsz : te.sz = sz) (hby : te.by_ ≠ 0)
    (hi : st.hp[i]? = some (b, true, .arr 0 N row sz u (0, 0))) (hroom : len + n ≤ cap) (hcap : cap ≤ N) (hn : base2 + n ≤ N) (hna : ∀ j, j < n → ∀ x ∈ row (base2 + j), NotAgg (den x)) (htl : tails l = true)
    (hk : ∀ a' w', RepX F { st with env := (dd, 0, .sl i b 0 0 (len + n) cap sz) :: st.env, hp := st.hp.set i (b, true, .arr 0 N (copyRow row row len base2 n) sz u (0, 0)) } a' w' → post P Q (.opsD all [] l :: k) .normal a' w') : post P Q (.opsD all hp0 ((ix, 3) :: l) :: k) .normal a w := by
  obtain ⟨w', h1, h2⟩ := RepX.appSelf htt hr he ht hd1 ht' hd2 hte hz hsz hby hi hroom hcap hn hna
  refine post_stepD3 hix (wanted_none hw) h1 (by rw [hf]; exact HpRep.nil) ?_
  rw [hdst]
  have hgo : ∀ a w, wpSeqD P all (post P Q k) (HpRep []) (HpRep (frz [])) l a w → wpSeqD P all (post P Q k) (HpRep hp0) (HpRep (frz hp0)) l a w := fun a w h => by rw [hf]; exact seqD_tails _ l _ _ htl h
  refine hgo _ _ ?_
  exact hk _ _ (h2.retK (KeepsTo.refl w' []) (by simp) dd (.sl i b 0 0 (len + n) cap sz) (by simp [den]) _ h2.all hdn hks)

/-- s[l:h:m] in a plain region, whose value is not used. -/
theorem post_slice3 {P : Program} {C : Cfg} (htt : TTok P C.tt) {Q : Exit → Act → World → Prop} {F : Fr} {st : St} {all : Array Oper} {o : Oper} {l : List Oper} {k : List W} {a : Act} {w : World} (hr : RepX F st a w) (hw : o.guard = none) {dd : Nat} (hdst : o.dst = some dd) (hdn : dd < st.nt) (hks : st.ks.all (fun r => r.tj != dd) = true)
    {t e : TypeId} {ti te : TI} {x lo hi mx : Operand} (hop : o.op = .slice t x (some lo) (some hi) (some mx)) {X : SV} {k1 k2 k3 : IntKind} {vl vh vm : Int} (h : opds st 0 [x, lo, hi, mx] = some [X, .v (.int k1 vl), .v (.int k2 vh), .v (.int k3 vm)]) {ad : Option Addr} {len cap : Nat} (hX : den X = .slice ad len cap)
    (ht : lookT C.tt t = some ti) (hd : ti.d = .slice e) (hte : lookT C.tt e = some te) (h0 : 0 ≤ vl) (h1 : vl ≤ vh) (h2 : vh ≤ vm) (h3 : vm ≤ cap)
    (hk : ∀ a' v, RepX F { st with env := (dd, 0, .v v) :: st.env } a' w → post P Q (.ops all l :: k) .normal a' w) : post P Q (.ops all (o :: l) :: k) .normal a w := by
  have e1 := opds_sound (hr.env.same (st' := st) rfl rfl rfl rfl) (c := 0) rfl _ _ h
  simp only [List.map_cons, List.map_nil, denL, List.cons.injEq, and_true] at e1
  obtain ⟨ex, el, eh, em⟩ := e1
  have hu := (htt _ _ ht).slice hd
  have hs := run_sizeOf' (htt _ _ hte) w
  have b1 : 0 ≤ vm := by omega
  have b2 : 0 ≤ vh := by omega
  have b3 : vh ≤ (vm.toNat : Int) := by omega
  have b4 : vl ≤ (vh.toNat : Int) := by omega
  have hex : ∃ v, (execOp a.eval o).run P w = .ok (.value v) w := by
    simp only [execOp, hop, Option.map_some, ex, el, eh, em, hX, den]
    simp only [Instr.sliceAt, Instr.slice, Sem.run_bind, run_underlying hu, Result.andThen_ok, Instr.sliceBounds, run_sliceBound w k3 vm cap _ b1 h3, run_sliceBound w k2 vh vm.toNat _ b2 b3, run_sliceBound w k1 vl vh.toNat _ h0 b4, hs, Sem.run_pure, Option.isSome_some, if_true]
    exact ⟨_, rfl⟩
  obtain ⟨v, hv⟩ := hex
  refine post_step hw hv ?_
  rw [hdst]
  exact hk _ v (hr.retK (KeepsTo.refl w []) (by simp) dd (.v v) rfl st.hp hr.all hdn hks)

set_option maxRecDepth 100000 in
set_option maxHeartbeats 16000000 in
/-- Delete of one thing. -/
theorem delete_ok {Q : Nat → Prop} (w : World) (v : Value) (L : List Lse) (hO : OwL Q w v L) (i : Nat) (hi : i < L.length) (hn : L.length ≤ 1000000) :
    Calls Try.prog 43 (denL [.v v, .v (.int .i64 i), .v (.int .i64 ((i : Int) + 1))]).toArray w (DelR Q w (L.take i ++ L.drop (i + 1))) := by
  obtain ⟨b, N, cap, u, row, hQ, rfl, hc0, hc1, hc2, hrep, hrow⟩ := hO.opn hi
  have hbw := SO.rep_lt hrep
  have hE : HpAll ⟨w, w.heap.size, [b]⟩ w [(b, true, .arr 0 N row 4 u (0, 0))] := ⟨⟨hrep, fun _ => .inr (by simp), by simp⟩, trivial⟩
  refine enter (F := ⟨w, w.heap.size, [b]⟩) Try.func43 rfl [.sl 0 b 0 0 L.length cap 4, .v (.int .i64 i), .v (.int .i64 ((i : Int) + 1))] _ (by simp [Try.f43, denL, den]) hE (KeepsTo.refl w _) fun a hr => ?_
  have hne : ¬ (i : Int) = (i : Int) + 1 := by omega
  have hMB : ∀ z ∈ [b], Q z ∧ z < w.heap.size := by simpa using ⟨hQ, hbw⟩
  obtain ⟨m, hm⟩ : ∃ m, L.length = i + 1 + m := ⟨L.length - (i + 1), by omega⟩
  have hfin : ∀ (w' : World) (row' : Nat → List SV), (SO.arr 0 N row' 4 u (0, 0)).rep w' b → (∀ q, q < i + m → row' q = copyRow row row i (i + 1) m q) → OwL Q w' (.slice (some ⟨b, 0, none⟩) (i + m) cap) (L.take i ++ L.drop (i + 1)) := fun w' row' h1 h2 => by
    have hl : (L.take i ++ L.drop (i + 1)).length = i + m := by simp; omega
    refine .inr ⟨b, N, cap, u, row', hQ, by rw [hl], hc0, by rw [hl]; omega, hc2, h1, fun q hq => ?_⟩
    rw [hl] at hq
    rw [h2 q hq]
    unfold copyRow
    by_cases hqi : q < i
    · rw [if_pos hqi, hrow q (by omega), nth_append_left (by simp; omega)]
      congr 1
      have := nth_part (d := lse0) (L := L) (i := 0) (n := i) hqi
      simpa using this.symm
    · rw [if_neg hqi, if_pos hq, hrow _ (by omega)]
      obtain ⟨r, rfl⟩ : ∃ r, q = i + r := ⟨q - i, by omega⟩
      have e1 : (L.take i).length = i := by simp; omega
      have e2 := nth_append_right (d := lse0) (L := L.take i) (M := L.drop (i + 1)) (j := r)
      rw [e1] at e2
      rw [e2]
      simp [nth, Nat.add_assoc, Nat.add_comm, Nat.add_left_comm]
  refine seg cfg43_ok mixed PanicFree.body 1000 [] [] hr (by first | trivial | exact HpRep.nil | assumption) (by kernel_rfl) fun s_ hs_ => ?_
  simp (maxSteps := 10000000) [SX.vc, SX.stop, SX.contS, SX.contB, SX.contW, SX.contR, SX.contD, SX.sxStep, SX.stepPure, SX.stepNew, SX.stepStore, SX.stepKeep, SX.guardIx, SX.evOp, SX.opd, SX.opds, SX.optOpd, SX.look, SX.putS, SX.gobs, SX.AllP, SX.leave, SX.lookC, SX.lookB, SX.lookT, SX.lookN, SX.findK, SX.evBuiltin, SX.ints, SX.foldI, SX.evBin, SX.evInt, SX.evStr, SX.evEq, SX.arith, SX.evLoad, SX.shapeUp, SX.evFieldAddr, SX.evField, SX.evIndexAddr, SX.evIndex, SX.evFill, SX.evBuild, SX.szs, SX.cellsV, SX.evNew, SX.evStore, SX.spliceL, SX.SV.cells, SX.evConv, SX.evSlice, SX.bnd, SX.evNil, SX.evUn, SX.evPick, SX.pickOpd, SX.popTo, SX.cnd, SX.env0, SX.TD.isAgg, SX.TD.isIface, SX.tails, SX.NotAgg, SX.evLookup, SX.evConvH, SX.evPtrEq, SX.isCells, SX.thaw, SX.frz, SX.fixB, SX.rootIx, SX.Froz, SX.frzStep, SX.fork, Go.Value.cells, Go.undef, cfg43, Try.f43]
  refine ⟨by (unfold SX.Ob; first | trivial | omega | ((try simp only [SX.inK]); (try simp [SX.den, SX.IsU8, SX.AllP, *]); (try omega))), ?_⟩
  intro a1 w1 hr1 _
  refine post_slice3 (C := cfg43) cfg43_ok hr1 rfl rfl (by simp) rfl rfl rfl rfl rfl rfl rfl (by omega) (by omega) (by omega) (by omega) fun a2 v2 hr2 => ?_
  by_cases hci : cap = i + 1
  · have hm0 : m = 0 := by omega
    have hci2 : ¬ cap = i := by omega
    have hm1 : ¬ 1 = m := by omega
    refine seg cfg43_ok mixed PanicFree.body 1000 [false] [] hr2 (by first | trivial | exact HpRep.nil | assumption) (by kernel_rfl) fun s_ hs_ => ?_
    simp (maxSteps := 10000000) [SX.vc, SX.stop, SX.contS, SX.contB, SX.contW, SX.contR, SX.contD, SX.sxStep, SX.stepPure, SX.stepNew, SX.stepStore, SX.stepKeep, SX.guardIx, SX.evOp, SX.opd, SX.opds, SX.optOpd, SX.look, SX.putS, SX.gobs, SX.AllP, SX.leave, SX.lookC, SX.lookB, SX.lookT, SX.lookN, SX.findK, SX.evBuiltin, SX.ints, SX.foldI, SX.evBin, SX.evInt, SX.evStr, SX.evEq, SX.arith, SX.evLoad, SX.shapeUp, SX.evFieldAddr, SX.evField, SX.evIndexAddr, SX.evIndex, SX.evFill, SX.evBuild, SX.szs, SX.cellsV, SX.evNew, SX.evStore, SX.spliceL, SX.SV.cells, SX.evConv, SX.evSlice, SX.bnd, SX.evNil, SX.evUn, SX.evPick, SX.pickOpd, SX.popTo, SX.cnd, SX.env0, SX.TD.isAgg, SX.TD.isIface, SX.tails, SX.NotAgg, SX.evLookup, SX.evConvH, SX.evPtrEq, SX.isCells, SX.thaw, SX.frz, SX.fixB, SX.rootIx, SX.Froz, SX.frzStep, SX.fork, Go.Value.cells, Go.undef, cfg43, hne, hci]
    refine ⟨by (unfold SX.Ob; first | trivial | omega | ((try simp only [SX.inK]); (try simp [SX.den, SX.IsU8, SX.AllP, *]); (try omega))), ?_⟩
    intro a3 w3 hr3 _
    have hm2 : L.length - (i + 1) = m := by omega
    rw [hm2] at hr3
    have hfl : ∀ j, j < m → ∀ x ∈ row (0 + j), NotAgg (den x) := fun j hj => by
      omega
    refine post_appSelfD (C := cfg43) cfg43_ok hr3 rfl (frz_thaw [(b, true, SO.arr 0 N row 4 u (0, 0))]) rfl rfl (by simp) rfl rfl rfl rfl rfl rfl rfl rfl rfl (by decide) rfl (by omega) (by omega) (by omega) hfl rfl fun a4 w4 hr4 => ?_
    have hcm : ¬ cap = i + m := by omega
    have htn : ((i : Int) + (m : Int)).toNat = i + m := by omega
    refine seg cfg43_ok mixed PanicFree.body 1000 [] [] hr4 (by first | trivial | exact HpRep.nil | assumption) (by kernel_rfl) fun s_ hs_ => ?_
    simp (maxSteps := 10000000) [SX.vc, SX.stop, SX.contS, SX.contB, SX.contW, SX.contR, SX.contD, SX.sxStep, SX.stepPure, SX.stepNew, SX.stepStore, SX.stepKeep, SX.guardIx, SX.evOp, SX.opd, SX.opds, SX.optOpd, SX.look, SX.putS, SX.gobs, SX.AllP, SX.leave, SX.lookC, SX.lookB, SX.lookT, SX.lookN, SX.findK, SX.evBuiltin, SX.ints, SX.foldI, SX.evBin, SX.evInt, SX.evStr, SX.evEq, SX.arith, SX.evLoad, SX.shapeUp, SX.evFieldAddr, SX.evField, SX.evIndexAddr, SX.evIndex, SX.evFill, SX.evBuild, SX.szs, SX.cellsV, SX.evNew, SX.evStore, SX.spliceL, SX.SV.cells, SX.evConv, SX.evSlice, SX.bnd, SX.evNil, SX.evUn, SX.evPick, SX.pickOpd, SX.popTo, SX.cnd, SX.env0, SX.TD.isAgg, SX.TD.isIface, SX.tails, SX.NotAgg, SX.evLookup, SX.evConvH, SX.evPtrEq, SX.isCells, SX.thaw, SX.frz, SX.fixB, SX.rootIx, SX.Froz, SX.frzStep, SX.fork, Go.Value.cells, Go.undef, cfg43, hcm, htn, hm1]
    refine ⟨by (unfold SX.Ob; first | trivial | omega | ((try simp only [SX.inK]); (try simp [SX.den, SX.IsU8, SX.AllP, *]); (try omega))), ?_⟩
    intro a5 w5 hr5 _
    refine post_clear (C := cfg43) cfg43_ok hr5 rfl rfl rfl rfl rfl rfl rfl rfl rfl (by decide) rfl (by omega) fun a6 w6 hr6 => ?_
    refine seg cfg43_ok mixed PanicFree.body 1000 [] [] hr6 (by first | trivial | exact HpRep.nil | assumption) (by kernel_rfl) fun s_ hs_ => ?_
    simp (maxSteps := 10000000) [SX.vc, SX.stop, SX.contS, SX.contB, SX.contW, SX.contR, SX.contD, SX.sxStep, SX.stepPure, SX.stepNew, SX.stepStore, SX.stepKeep, SX.guardIx, SX.evOp, SX.opd, SX.opds, SX.optOpd, SX.look, SX.putS, SX.gobs, SX.AllP, SX.leave, SX.lookC, SX.lookB, SX.lookT, SX.lookN, SX.findK, SX.evBuiltin, SX.ints, SX.foldI, SX.evBin, SX.evInt, SX.evStr, SX.evEq, SX.arith, SX.evLoad, SX.shapeUp, SX.evFieldAddr, SX.evField, SX.evIndexAddr, SX.evIndex, SX.evFill, SX.evBuild, SX.szs, SX.cellsV, SX.evNew, SX.evStore, SX.spliceL, SX.SV.cells, SX.evConv, SX.evSlice, SX.bnd, SX.evNil, SX.evUn, SX.evPick, SX.pickOpd, SX.popTo, SX.cnd, SX.env0, SX.TD.isAgg, SX.TD.isIface, SX.tails, SX.NotAgg, SX.evLookup, SX.evConvH, SX.evPtrEq, SX.isCells, SX.thaw, SX.frz, SX.fixB, SX.rootIx, SX.Froz, SX.frzStep, SX.fork, Go.Value.cells, Go.undef, cfg43]
    refine ⟨by (unfold SX.Ob; first | trivial | omega | ((try simp only [SX.inK]); (try simp [SX.den, SX.IsU8, SX.AllP, *]); (try omega))), ?_⟩
    intro a7 w7 hr7 _
    refine post_retn (end1 hr7 rfl rfl ⟨_, [b], rfl, ?_, hMB, hr7.keeps⟩).1
    have := hfin w7 _ hr7.all.1.1 (fun q hq => by
      rw [if_neg (by omega)]
      unfold copyRow
      rw [if_pos (by omega), if_pos (by omega)])
    simpa [den, hci] using this
  · refine seg cfg43_ok mixed PanicFree.body 1000 [false] [] hr2 (by first | trivial | exact HpRep.nil | assumption) (by kernel_rfl) fun s_ hs_ => ?_
    simp (maxSteps := 10000000) [SX.vc, SX.stop, SX.contS, SX.contB, SX.contW, SX.contR, SX.contD, SX.sxStep, SX.stepPure, SX.stepNew, SX.stepStore, SX.stepKeep, SX.guardIx, SX.evOp, SX.opd, SX.opds, SX.optOpd, SX.look, SX.putS, SX.gobs, SX.AllP, SX.leave, SX.lookC, SX.lookB, SX.lookT, SX.lookN, SX.findK, SX.evBuiltin, SX.ints, SX.foldI, SX.evBin, SX.evInt, SX.evStr, SX.evEq, SX.arith, SX.evLoad, SX.shapeUp, SX.evFieldAddr, SX.evField, SX.evIndexAddr, SX.evIndex, SX.evFill, SX.evBuild, SX.szs, SX.cellsV, SX.evNew, SX.evStore, SX.spliceL, SX.SV.cells, SX.evConv, SX.evSlice, SX.bnd, SX.evNil, SX.evUn, SX.evPick, SX.pickOpd, SX.popTo, SX.cnd, SX.env0, SX.TD.isAgg, SX.TD.isIface, SX.tails, SX.NotAgg, SX.evLookup, SX.evConvH, SX.evPtrEq, SX.isCells, SX.thaw, SX.frz, SX.fixB, SX.rootIx, SX.Froz, SX.frzStep, SX.fork, Go.Value.cells, Go.undef, cfg43, hne, hci]
    refine ⟨by (unfold SX.Ob; first | trivial | omega | ((try simp only [SX.inK]); (try simp [SX.den, SX.IsU8, SX.AllP, *]); (try omega))), ?_⟩
    intro a3 w3 hr3 _
    have hm2 : L.length - (i + 1) = m := by omega
    rw [hm2] at hr3
    have hfl : ∀ j, j < m → ∀ x ∈ row (i + 1 + j), NotAgg (den x) := fun j hj => by
      rw [hrow _ (by omega)]
      exact flatL [nth lse0 L (i + 1 + j)] _ (by simp)
    refine post_appSelfD (C := cfg43) cfg43_ok hr3 rfl (frz_thaw [(b, true, SO.arr 0 N row 4 u (0, 0))]) rfl rfl (by simp) rfl rfl rfl rfl rfl rfl rfl rfl rfl (by decide) rfl (by omega) (by omega) (by omega) hfl rfl fun a4 w4 hr4 => ?_
    have hcm : ¬ cap = i + m := by omega
    have htn : ((i : Int) + (m : Int)).toNat = i + m := by omega
    refine seg cfg43_ok mixed PanicFree.body 1000 [] [] hr4 (by first | trivial | exact HpRep.nil | assumption) (by kernel_rfl) fun s_ hs_ => ?_
    simp (maxSteps := 10000000) [SX.vc, SX.stop, SX.contS, SX.contB, SX.contW, SX.contR, SX.contD, SX.sxStep, SX.stepPure, SX.stepNew, SX.stepStore, SX.stepKeep, SX.guardIx, SX.evOp, SX.opd, SX.opds, SX.optOpd, SX.look, SX.putS, SX.gobs, SX.AllP, SX.leave, SX.lookC, SX.lookB, SX.lookT, SX.lookN, SX.findK, SX.evBuiltin, SX.ints, SX.foldI, SX.evBin, SX.evInt, SX.evStr, SX.evEq, SX.arith, SX.evLoad, SX.shapeUp, SX.evFieldAddr, SX.evField, SX.evIndexAddr, SX.evIndex, SX.evFill, SX.evBuild, SX.szs, SX.cellsV, SX.evNew, SX.evStore, SX.spliceL, SX.SV.cells, SX.evConv, SX.evSlice, SX.bnd, SX.evNil, SX.evUn, SX.evPick, SX.pickOpd, SX.popTo, SX.cnd, SX.env0, SX.TD.isAgg, SX.TD.isIface, SX.tails, SX.NotAgg, SX.evLookup, SX.evConvH, SX.evPtrEq, SX.isCells, SX.thaw, SX.frz, SX.fixB, SX.rootIx, SX.Froz, SX.frzStep, SX.fork, Go.Value.cells, Go.undef, cfg43, hcm, htn]
    refine ⟨by (unfold SX.Ob; first | trivial | omega | ((try simp only [SX.inK]); (try simp [SX.den, SX.IsU8, SX.AllP, *]); (try omega))), ?_⟩
    intro a5 w5 hr5 _
    refine post_clear (C := cfg43) cfg43_ok hr5 rfl rfl rfl rfl rfl rfl rfl rfl rfl (by decide) rfl (by omega) fun a6 w6 hr6 => ?_
    refine seg cfg43_ok mixed PanicFree.body 1000 [] [] hr6 (by first | trivial | exact HpRep.nil | assumption) (by kernel_rfl) fun s_ hs_ => ?_
    simp (maxSteps := 10000000) [SX.vc, SX.stop, SX.contS, SX.contB, SX.contW, SX.contR, SX.contD, SX.sxStep, SX.stepPure, SX.stepNew, SX.stepStore, SX.stepKeep, SX.guardIx, SX.evOp, SX.opd, SX.opds, SX.optOpd, SX.look, SX.putS, SX.gobs, SX.AllP, SX.leave, SX.lookC, SX.lookB, SX.lookT, SX.lookN, SX.findK, SX.evBuiltin, SX.ints, SX.foldI, SX.evBin, SX.evInt, SX.evStr, SX.evEq, SX.arith, SX.evLoad, SX.shapeUp, SX.evFieldAddr, SX.evField, SX.evIndexAddr, SX.evIndex, SX.evFill, SX.evBuild, SX.szs, SX.cellsV, SX.evNew, SX.evStore, SX.spliceL, SX.SV.cells, SX.evConv, SX.evSlice, SX.bnd, SX.evNil, SX.evUn, SX.evPick, SX.pickOpd, SX.popTo, SX.cnd, SX.env0, SX.TD.isAgg, SX.TD.isIface, SX.tails, SX.NotAgg, SX.evLookup, SX.evConvH, SX.evPtrEq, SX.isCells, SX.thaw, SX.frz, SX.fixB, SX.rootIx, SX.Froz, SX.frzStep, SX.fork, Go.Value.cells, Go.undef, cfg43]
    refine ⟨by (unfold SX.Ob; first | trivial | omega | ((try simp only [SX.inK]); (try simp [SX.den, SX.IsU8, SX.AllP, *]); (try omega))), ?_⟩
    intro a7 w7 hr7 _
    refine post_retn (end1 hr7 rfl rfl ⟨_, [b], rfl, ?_, hMB, hr7.keeps⟩).1
    have := hfin w7 _ hr7.all.1.1 (fun q hq => by
      rw [if_neg (by omega)])
    simpa [den, hci] using this

/-- All but a key. -/
def delK (y : Int) (L : List Lse) : List Lse := L.filter fun x => decide (x.k ≠ y)
theorem place_del {L : List Lse} {y : Int} {i : Nat} (hs : Srt L) (hi : i < L.length) (hk : (nth lse0 L i).k = y) : L.take i ++ L.drop (i + 1) = delK y L := by
  unfold delK
  conv => rhs; rw [← List.take_append_drop i L]
  rw [List.filter_append, drop_nth (d := lse0) hi, List.filter_cons_of_neg (by simpa using hk)]
  congr 1
  · rw [List.filter_eq_self.2]
    intro x hx
    obtain ⟨j, hj, rfl⟩ := List.mem_iff_getElem.1 hx
    simp only [List.length_take] at hj
    have := hs j i (by omega) hi
    rw [nth_lt (show j < L.length by omega)] at this
    simp only [List.getElem_take, decide_eq_true_eq]
    omega
  · rw [List.filter_eq_self.2]
    intro x hx
    obtain ⟨j, hj, rfl⟩ := List.mem_iff_getElem.1 hx
    simp only [List.length_drop] at hj
    have := hs i (i + 1 + j) (by omega) (by omega)
    rw [nth_lt (show i + 1 + j < L.length by omega)] at this
    simp only [List.getElem_drop, decide_eq_true_eq]
    omega

/-- What Revoke tells. -/
def revE (t : Tab) (key : Int) : Int := if ChkT t then (if HasK t.L key then 0 else 4) else 1
def revT (t : Tab) (key : Int) : Tab := if revE t key = 0 then ⟨t.last, t.now, delK key t.L⟩ else tab0
def RevR (w : World) (t : Tab) (key : Int) (e : Ending) (w' : World) : Prop :=
  ∃ v1, e = .returned (den (.tu [.ag (tabC (revT t key) v1), .v (.int .i64 (revE t key))])) ∧ RdL (fun x => w.heap.size ≤ x) w' v1 (revT t key).L ∧ Below w.heap.size w w'

set_option maxRecDepth 100000 in
set_option maxHeartbeats 16000000 in
/-- Revoke. -/
theorem Revoke_ok {P : Nat → Prop} (w : World) (v : Value) (t : Tab) (key : Int) (hL : RdL P w v t.L) (hn : t.L.length ≤ 100000) : Calls Try.prog 16 (denL [.ag (tabC t v), .v (.int .i64 key)]).toArray w (RevR w t key) := by
  refine enter (F := frame0 w) Try.func16 rfl [.ag (tabC t v), .v (.int .i64 key)] [] (by simp [Try.f16]) trivial (keeps0 w) fun a hr => ?_
  obtain ⟨ad, cp, rfl⟩ := hL.slice
  refine seg cfg16_ok mixed PanicFree.body 1000 [] [] hr (by first | trivial | exact HpRep.nil | assumption) (by kernel_rfl) fun sA hsA => ?_
  simp (maxSteps := 10000000) [SX.vc, SX.stop, SX.contS, SX.contB, SX.contW, SX.contR, SX.contD, SX.sxStep, SX.stepPure, SX.stepNew, SX.stepStore, SX.stepKeep, SX.guardIx, SX.evOp, SX.opd, SX.opds, SX.optOpd, SX.look, SX.putS, SX.gobs, SX.AllP, SX.leave, SX.lookC, SX.lookB, SX.lookT, SX.lookN, SX.findK, SX.evBuiltin, SX.ints, SX.foldI, SX.evBin, SX.evInt, SX.evStr, SX.evEq, SX.arith, SX.evLoad, SX.shapeUp, SX.evFieldAddr, SX.evField, SX.evIndexAddr, SX.evIndex, SX.evFill, SX.evBuild, SX.szs, SX.cellsV, SX.evNew, SX.evStore, SX.spliceL, SX.SV.cells, SX.evConv, SX.evSlice, SX.bnd, SX.evNil, SX.evUn, SX.evPick, SX.pickOpd, SX.popTo, SX.cnd, SX.env0, SX.TD.isAgg, SX.TD.isIface, SX.tails, SX.NotAgg, SX.evLookup, SX.evConvH, SX.evPtrEq, SX.isCells, SX.thaw, SX.frz, SX.fixB, SX.rootIx, SX.Froz, SX.frzStep, SX.fork, Go.Value.cells, Go.undef, cfg16, Try.f16, tabC]
  refine ⟨by (unfold SX.Ob; first | trivial | omega | ((try simp only [SX.inK]); (try simp [SX.den, SX.IsU8, SX.AllP, *]); (try omega))), ?_⟩
  intro a1 w1 hr1 _
  refine post_call 25 [.ag [.v (.int .i64 t.last), .v (.int .i64 t.now), .v (.slice ad t.L.length cp)]] hr1 (by first | exact wanted_none rfl | exact wanted_zero (hr1.env.same rfl rfl rfl rfl) rfl (by simp) | exact wanted_zero (hr1.env.same rfl rfl rfl rfl) rfl (by simp [*])) rfl (callable 25 Try.func25) (check_ok w1 _ t (hL.below hr1.keeps.toBelow) (by omega)) ?_
  rintro e2 w2 ⟨rfl, hb2⟩
  refine ⟨_, rfl, ?_⟩
  have h2 := hr1.ret hb2 9 (.v (.int .i64 (chkT t))) rfl _ (hr1.all.below hb2) (by simp) rfl
  by_cases hC : ChkT t
  rotate_left
  · have hc : chkT t = 1 := if_neg hC
    have hE : revE t key = 1 := if_neg hC
    have hT : revT t key = tab0 := if_neg (by omega)
    refine seg cfg16_ok mixed PanicFree.body 1000 [true] [] h2 (by first | trivial | exact HpRep.nil | assumption) (by kernel_rfl) fun s_ hs_ => ?_
    simp (maxSteps := 10000000) [SX.vc, SX.stop, SX.contS, SX.contB, SX.contW, SX.contR, SX.contD, SX.sxStep, SX.stepPure, SX.stepNew, SX.stepStore, SX.stepKeep, SX.guardIx, SX.evOp, SX.opd, SX.opds, SX.optOpd, SX.look, SX.putS, SX.gobs, SX.AllP, SX.leave, SX.lookC, SX.lookB, SX.lookT, SX.lookN, SX.findK, SX.evBuiltin, SX.ints, SX.foldI, SX.evBin, SX.evInt, SX.evStr, SX.evEq, SX.arith, SX.evLoad, SX.shapeUp, SX.evFieldAddr, SX.evField, SX.evIndexAddr, SX.evIndex, SX.evFill, SX.evBuild, SX.szs, SX.cellsV, SX.evNew, SX.evStore, SX.spliceL, SX.SV.cells, SX.evConv, SX.evSlice, SX.bnd, SX.evNil, SX.evUn, SX.evPick, SX.pickOpd, SX.popTo, SX.cnd, SX.env0, SX.TD.isAgg, SX.TD.isIface, SX.tails, SX.NotAgg, SX.evLookup, SX.evConvH, SX.evPtrEq, SX.isCells, SX.thaw, SX.frz, SX.fixB, SX.rootIx, SX.Froz, SX.frzStep, SX.fork, Go.Value.cells, Go.undef, cfg16, hc]
    refine ⟨by (unfold SX.Ob; first | trivial | omega | ((try simp only [SX.inK]); (try simp [SX.den, SX.IsU8, SX.AllP, *]); (try omega))), ?_⟩
    intro a3 w3 hr3 _
    exact post_retn (endC2 hr3 rfl rfl rfl tok24 rfl rfl ⟨.slice none 0 0, by rw [hE, hT]; simp [den, denL, tabC, tab0], by rw [hT]; exact OwS.nil.rd, hr3.keeps.toBelow⟩).1
  have hc : chkT t = 0 := if_pos hC
  have hsr := chk_srt hC
  refine seg cfg16_ok mixed PanicFree.body 1000 [false] [] h2 (by first | trivial | exact HpRep.nil | assumption) (by kernel_rfl) fun s_ hs_ => ?_
  simp (maxSteps := 10000000) [SX.vc, SX.stop, SX.contS, SX.contB, SX.contW, SX.contR, SX.contD, SX.sxStep, SX.stepPure, SX.stepNew, SX.stepStore, SX.stepKeep, SX.guardIx, SX.evOp, SX.opd, SX.opds, SX.optOpd, SX.look, SX.putS, SX.gobs, SX.AllP, SX.leave, SX.lookC, SX.lookB, SX.lookT, SX.lookN, SX.findK, SX.evBuiltin, SX.ints, SX.foldI, SX.evBin, SX.evInt, SX.evStr, SX.evEq, SX.arith, SX.evLoad, SX.shapeUp, SX.evFieldAddr, SX.evField, SX.evIndexAddr, SX.evIndex, SX.evFill, SX.evBuild, SX.szs, SX.cellsV, SX.evNew, SX.evStore, SX.spliceL, SX.SV.cells, SX.evConv, SX.evSlice, SX.bnd, SX.evNil, SX.evUn, SX.evPick, SX.pickOpd, SX.popTo, SX.cnd, SX.env0, SX.TD.isAgg, SX.TD.isIface, SX.tails, SX.NotAgg, SX.evLookup, SX.evConvH, SX.evPtrEq, SX.isCells, SX.thaw, SX.frz, SX.fixB, SX.rootIx, SX.Froz, SX.frzStep, SX.fork, Go.Value.cells, Go.undef, cfg16, hc, tabC]
  refine ⟨by (unfold SX.Ob; first | trivial | omega | ((try simp only [SX.inK]); (try simp [SX.den, SX.IsU8, SX.AllP, *]); (try omega))), ?_⟩
  intro a3 w3 hr3 _
  refine post_call 40 [.ag [.v (.int .i64 t.last), .v (.int .i64 t.now), .v (.slice ad t.L.length cp)], .v (.int .i64 key)] hr3 (by first | exact wanted_none rfl | exact wanted_zero (hr3.env.same rfl rfl rfl rfl) rfl (by simp) | exact wanted_zero (hr3.env.same rfl rfl rfl rfl) rfl (by simp [*])) rfl (callable 40 Try.func40) (find_ok w3 _ t key (hL.below hr3.keeps.toBelow) (by omega)) ?_
  rintro e4 w4 ⟨i, rfl, hpl, hb4⟩
  refine ⟨_, rfl, ?_⟩
  have h4 := hr3.ret hb4 15 (.tu [.v (.int .i64 i), .v (.bool (isAt t.L key i))]) rfl _ (hr3.all.below hb4) (by simp) rfl
  have hat := place_has hpl hsr
  by_cases hH : HasK t.L key
  rotate_left
  · have hE : revE t key = 4 := by rw [revE, if_pos hC, if_neg hH]
    have hT : revT t key = tab0 := if_neg (by omega)
    have hat' : isAt t.L key i = false := by rw [hat]; simpa using hH
    refine seg cfg16_ok mixed PanicFree.body 1000 [true] [] h4 (by first | trivial | exact HpRep.nil | assumption) (by kernel_rfl) fun s_ hs_ => ?_
    simp (maxSteps := 10000000) [SX.vc, SX.stop, SX.contS, SX.contB, SX.contW, SX.contR, SX.contD, SX.sxStep, SX.stepPure, SX.stepNew, SX.stepStore, SX.stepKeep, SX.guardIx, SX.evOp, SX.opd, SX.opds, SX.optOpd, SX.look, SX.putS, SX.gobs, SX.AllP, SX.leave, SX.lookC, SX.lookB, SX.lookT, SX.lookN, SX.findK, SX.evBuiltin, SX.ints, SX.foldI, SX.evBin, SX.evInt, SX.evStr, SX.evEq, SX.arith, SX.evLoad, SX.shapeUp, SX.evFieldAddr, SX.evField, SX.evIndexAddr, SX.evIndex, SX.evFill, SX.evBuild, SX.szs, SX.cellsV, SX.evNew, SX.evStore, SX.spliceL, SX.SV.cells, SX.evConv, SX.evSlice, SX.bnd, SX.evNil, SX.evUn, SX.evPick, SX.pickOpd, SX.popTo, SX.cnd, SX.env0, SX.TD.isAgg, SX.TD.isIface, SX.tails, SX.NotAgg, SX.evLookup, SX.evConvH, SX.evPtrEq, SX.isCells, SX.thaw, SX.frz, SX.fixB, SX.rootIx, SX.Froz, SX.frzStep, SX.fork, Go.Value.cells, Go.undef, cfg16, hat']
    refine ⟨by (unfold SX.Ob; first | trivial | omega | ((try simp only [SX.inK]); (try simp [SX.den, SX.IsU8, SX.AllP, *]); (try omega))), ?_⟩
    intro a5 w5 hr5 _
    exact post_retn (endC2 hr5 rfl rfl rfl tok24 rfl rfl ⟨.slice none 0 0, by rw [hE, hT]; simp [den, denL, tabC, tab0], by rw [hT]; exact OwS.nil.rd, hr5.keeps.toBelow⟩).1
  have hE : revE t key = 0 := by rw [revE, if_pos hC, if_pos hH]
  have hT : revT t key = ⟨t.last, t.now, delK key t.L⟩ := if_pos hE
  have hat' : isAt t.L key i = true := by rw [hat]; simpa using hH
  have hik : i < t.L.length ∧ (nth lse0 t.L i).k = key := by simpa [isAt] using hat'
  have hdl := place_del hsr hik.1 hik.2
  refine seg cfg16_ok mixed PanicFree.body 1000 [false] [] h4 (by first | trivial | exact HpRep.nil | assumption) (by kernel_rfl) fun s_ hs_ => ?_
  simp (maxSteps := 10000000) [SX.vc, SX.stop, SX.contS, SX.contB, SX.contW, SX.contR, SX.contD, SX.sxStep, SX.stepPure, SX.stepNew, SX.stepStore, SX.stepKeep, SX.guardIx, SX.evOp, SX.opd, SX.opds, SX.optOpd, SX.look, SX.putS, SX.gobs, SX.AllP, SX.leave, SX.lookC, SX.lookB, SX.lookT, SX.lookN, SX.findK, SX.evBuiltin, SX.ints, SX.foldI, SX.evBin, SX.evInt, SX.evStr, SX.evEq, SX.arith, SX.evLoad, SX.shapeUp, SX.evFieldAddr, SX.evField, SX.evIndexAddr, SX.evIndex, SX.evFill, SX.evBuild, SX.szs, SX.cellsV, SX.evNew, SX.evStore, SX.spliceL, SX.SV.cells, SX.evConv, SX.evSlice, SX.bnd, SX.evNil, SX.evUn, SX.evPick, SX.pickOpd, SX.popTo, SX.cnd, SX.env0, SX.TD.isAgg, SX.TD.isIface, SX.tails, SX.NotAgg, SX.evLookup, SX.evConvH, SX.evPtrEq, SX.isCells, SX.thaw, SX.frz, SX.fixB, SX.rootIx, SX.Froz, SX.frzStep, SX.fork, Go.Value.cells, Go.undef, cfg16, hat']
  refine ⟨by (unfold SX.Ob; first | trivial | omega | ((try simp only [SX.inK]); (try simp [SX.den, SX.IsU8, SX.AllP, *]); (try omega))), ?_⟩
  intro a5 w5 hr5 _
  have hA5 := hr5.all
  have z5 : w.heap.size ≤ w5.heap.size := hr5.keeps.size
  refine post_call 42 [.v (.slice ad t.L.length cp)] hr5 (by first | exact wanted_none rfl | exact wanted_zero (hr5.env.same rfl rfl rfl rfl) rfl (by simp) | exact wanted_zero (hr5.env.same rfl rfl rfl rfl) rfl (by simp [*])) rfl (callable 42 Try.func42) (clone_all w5 _ t.L (hL.below hr5.keeps.toBelow) (by omega)) ?_
  rintro e6 w6 ⟨v6, rfl, hO6, hb6⟩
  refine ⟨_, rfl, ?_⟩
  have h6 := hr5.ret hb6 23 (.v v6) rfl _ (hr5.all.below hb6) (by simp) rfl
  refine seg cfg16_ok mixed PanicFree.body 1000 [] [] h6.rebase (by first | trivial | exact HpRep.nil | assumption) (by kernel_rfl) fun s_ hs_ => ?_
  simp (maxSteps := 10000000) [SX.vc, SX.stop, SX.contS, SX.contB, SX.contW, SX.contR, SX.contD, SX.sxStep, SX.stepPure, SX.stepNew, SX.stepStore, SX.stepKeep, SX.guardIx, SX.evOp, SX.opd, SX.opds, SX.optOpd, SX.look, SX.putS, SX.gobs, SX.AllP, SX.leave, SX.lookC, SX.lookB, SX.lookT, SX.lookN, SX.findK, SX.evBuiltin, SX.ints, SX.foldI, SX.evBin, SX.evInt, SX.evStr, SX.evEq, SX.arith, SX.evLoad, SX.shapeUp, SX.evFieldAddr, SX.evField, SX.evIndexAddr, SX.evIndex, SX.evFill, SX.evBuild, SX.szs, SX.cellsV, SX.evNew, SX.evStore, SX.spliceL, SX.SV.cells, SX.evConv, SX.evSlice, SX.bnd, SX.evNil, SX.evUn, SX.evPick, SX.pickOpd, SX.popTo, SX.cnd, SX.env0, SX.TD.isAgg, SX.TD.isIface, SX.tails, SX.NotAgg, SX.evLookup, SX.evConvH, SX.evPtrEq, SX.isCells, SX.thaw, SX.frz, SX.fixB, SX.rootIx, SX.Froz, SX.frzStep, SX.fork, Go.Value.cells, Go.undef, cfg16]
  refine ⟨by (unfold SX.Ob; first | trivial | omega | ((try simp only [SX.inK]); (try simp [SX.den, SX.IsU8, SX.AllP, *]); (try omega))), ?_⟩
  intro a7 w7 hr7' _
  have hr7 := h6.unbase hr7'
  have hO7 := hO6.keep hr7'.keeps (fun x hx h => absurd (mutB_lt hr5.all x hx) (by omega))
  have hde := delete_ok w7 v6 t.L hO7 i hik.1 (by omega)
  rw [hdl] at hde
  refine post_call 43 [.v v6, .v (.int .i64 i), .v (.int .i64 ((i : Int) + 1))] hr7 (wanted_none rfl) rfl (callable 43 Try.func43) hde ?_
  rintro e8 w8 ⟨V, B, rfl, hO8, hB, hk8⟩
  refine ⟨_, rfl, ?_⟩
  have h8 := hr7.retK hk8 (fun x hx => .inl (Nat.le_trans z5 (hB x hx).1)) 27 (.v V) rfl _ (HpAll.to hk8 hr7.all (fun e he hb => by
    have h1 := (hB _ hb).1
    have k0 := SO.rep_lt hA5.1.1
    have k1 := SO.rep_lt hA5.2.1.1
    simp at he
    rcases he with rfl | rfl <;> (simp at h1; omega))) (by simp) rfl
  obtain ⟨adV, cpV, rfl⟩ := hO8.slice
  refine seg cfg16_ok mixed PanicFree.body 1000 [] [] h8.rebase (by first | trivial | exact HpRep.nil | assumption) (by kernel_rfl) fun s_ hs_ => ?_
  simp (maxSteps := 10000000) [SX.vc, SX.stop, SX.contS, SX.contB, SX.contW, SX.contR, SX.contD, SX.sxStep, SX.stepPure, SX.stepNew, SX.stepStore, SX.stepKeep, SX.guardIx, SX.evOp, SX.opd, SX.opds, SX.optOpd, SX.look, SX.putS, SX.gobs, SX.AllP, SX.leave, SX.lookC, SX.lookB, SX.lookT, SX.lookN, SX.findK, SX.evBuiltin, SX.ints, SX.foldI, SX.evBin, SX.evInt, SX.evStr, SX.evEq, SX.arith, SX.evLoad, SX.shapeUp, SX.evFieldAddr, SX.evField, SX.evIndexAddr, SX.evIndex, SX.evFill, SX.evBuild, SX.szs, SX.cellsV, SX.evNew, SX.evStore, SX.spliceL, SX.SV.cells, SX.evConv, SX.evSlice, SX.bnd, SX.evNil, SX.evUn, SX.evPick, SX.pickOpd, SX.popTo, SX.cnd, SX.env0, SX.TD.isAgg, SX.TD.isIface, SX.tails, SX.NotAgg, SX.evLookup, SX.evConvH, SX.evPtrEq, SX.isCells, SX.thaw, SX.frz, SX.fixB, SX.rootIx, SX.Froz, SX.frzStep, SX.fork, Go.Value.cells, Go.undef, cfg16]
  refine ⟨by (unfold SX.Ob; first | trivial | omega | ((try simp only [SX.inK]); (try simp [SX.den, SX.IsU8, SX.AllP, *]); (try omega))), ?_⟩
  intro a9 w9 hr9' _
  have hr9 := h8.unbase hr9'
  have hO9 := hO8.rd.keep hr9'.keeps (fun x hx h => absurd (mutB_lt hr5.all x hx) (by omega))
  exact post_retn (endC2 hr9 rfl rfl rfl tok24 rfl rfl ⟨.slice adV (delK key t.L).length cpV, by rw [hE, hT]; simp [den, denL, tabC], by rw [hT]; exact hO9.mono fun x _ h => by omega, hr9.keeps.toBelow⟩).1
end Go.Proofs
