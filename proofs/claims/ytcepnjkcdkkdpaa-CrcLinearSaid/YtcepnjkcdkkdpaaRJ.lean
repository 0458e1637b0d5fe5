/- The chapter's examples; whether texts are long. -/
import Derived.Test.YtcepnjkcdkkdpaaRI
namespace Go.Proofs
set_option linter.unusedVariables false
set_option linter.unusedSimpArgs false
open Go Go.SX Go.RowKit Go.Crc

theorem exec_conv {P : Program} {st : St} {c : Nat} {o : Oper} {s d : TypeId} {x : Operand} {y : SV} {v : Value} {a : Act} {w w' : World} (he : EnvRep st a) (hc : cnd st.cs c = true) (hop : o.op = .convert s d x) (h : opd st c x = some y)
    (hv : (convert s d (den y)).run P w = .ok v w') : (execOp a.eval o).run P w = .ok (.value v) w' := by
  simp [execOp, hop, opd_sound he hc h, hv]

theorem freeze_put {w : World} {b k : Nat} {c : Array Value} {u : TypeId} (h : w.heap[b]? = some (.cells c u (0, 0))) : w.freeze ⟨b, k, none⟩ 1 = putBlk w b (.cells c u (k, k + 1)) := by
  unfold World.freeze putBlk
  rw [if_neg (by decide)]
  congr 1
  apply Array.ext_getElem?
  intro i
  have hlt := (Array.getElem?_eq_some_iff.1 h).1
  by_cases hi : b = i
  · subst hi
    rw [Array.getElem?_modify, if_pos rfl, h, Array.getElem?_setIfInBounds, if_pos rfl, if_pos hlt]
    rfl
  · rw [Array.getElem?_modify, if_neg hi, Array.getElem?_setIfInBounds, if_neg hi]

theorem conv22 {b n cap N : Nat} {row : Nat → List SV} {w : World} (h : (SO.arr 0 N row 1 5 (0, 0)).rep w b) :
    ∃ w' fz, (convert 22 22 (.slice (some ⟨b, 0, none⟩) n cap)).run Try.prog w = .ok (.slice (some ⟨b, 0, none⟩) n cap) w' ∧ KeepsTo w [b] w' ∧ (SO.arr 0 N row 1 5 fz).rep w' b := by
  obtain ⟨c, hc, h2, h3⟩ := h
  refine ⟨putBlk w b (.cells c 5 (c.size, c.size + 1)), (c.size, c.size + 1), ?_, putBlk_keeps, c, putBlk_same (lt_of_heap hc), h2, h3⟩
  have hsh : w.shape? b = some (5, c.size) := by simp [World.shape?, hc]
  simp [convert, run_underlying Try.underlying22, run_underlying Try.underlying5, markStringish, hsh]
  exact freeze_put hc

def LivePost (w : World) (e : Ending) (w' : World) : Prop := e = .returned (.bool true) ∧ Below w.heap.size w w'

theorem TabRep.keepK {w w' : World} {b : Nat} {u : Int} {M : List Nat} (h : TabRep w b u) (hk : KeepsTo w M w') (hb : b ∉ M) : TabRep w' b u := by
  obtain ⟨d, T, h1, h2, h3⟩ := h
  exact ⟨d, T, h1, h2, hk.same h3 hb⟩

/-- A list of one text. -/
theorem LV.one {b : Nat} {w : World} {lb : Nat} {v : Value} {n : Nat} {g : Nat → BitVec 8} {row : Nat → List SV} {N cap : Nat} {u : TypeId} {fz : Nat × Nat} (hN : 1 ≤ N) (hne : lb ≠ b) (hr : (SO.arr 0 N row 1 u fz).rep w lb) (hv : denL (row 0) = [v]) (hB : BV b w v n g) (hn : n ≤ 9223372036854775807) :
    LV b w (.slice (some ⟨lb, 0, none⟩) 1 cap) 1 (fun _ => n) (fun _ => g) := by
  refine .inr ⟨by omega, lb, 0, 1, cap, u, fz, fun _ => v, hne, rfl, Nat.le_refl _, rep_arr_sub hr hN fun j hj => ?_, fun j hj => ⟨hB, hn⟩⟩
  obtain rfl : j = 0 := by omega
  rw [hv]; rfl

theorem BV.of {b : Nat} {w : World} {tb n N cap : Nat} {g : Nat → BitVec 8} {row : Nat → List SV} {u : TypeId} {fz : Nat × Nat} (hn : 0 < n) (hN : n ≤ N) (hne : tb ≠ b) (hr : (SO.arr 0 N row 1 u fz).rep w tb) (hv : ∀ j, j < n → denL (row j) = [.int .u8 (bv (g j))]) :
    BV b w (.slice (some ⟨tb, 0, none⟩) n cap) n g :=
  .inr ⟨hn, tb, 0, n, cap, u, fz, hne, rfl, Nat.le_refl _, rep_arr_sub hr hN fun j hj => by rw [hv j hj]; rfl⟩

def digit (j : Nat) : BitVec 8 := BitVec.ofNat 8 (49 + j)
theorem sum9 : rv (~~~ sumN (fun _ => 9) (fun _ => digit) 1) = 3808858755 := by decide +kernel
theorem sum1 : rv (~~~ sumN (fun _ => 1) (fun _ _ => 0#8) 1) = 1383945041 := by decide +kernel
theorem sum0 (ns : Nat → Nat) (gs : Nat → Nat → BitVec 8) : rv (~~~ sumN ns gs 0) = 0 := by
  show rv (~~~ ones) = 0
  decide +kernel

set_option maxRecDepth 100000 in
set_option maxHeartbeats 8000000 in
theorem live_ok (w : World) : Calls Try.prog 8 (denL []).toArray w (LivePost w) := by
  refine enter (F := frame0 w) Try.func8 rfl [] [] (by simp [Try.f8]) trivial (keeps0 w) fun a hr => ?_
  refine seg cfg8_ok mixed PanicFree.body 1000 [] [] hr (by first | trivial | exact HpRep.nil | assumption) (by kernel_rfl) fun s_ hs_ => ?_
  simp (maxSteps := 10000000) [SX.vc, SX.stop, SX.contS, SX.contB, SX.contW, SX.contR, SX.contD, SX.sxStep, SX.stepPure, SX.stepNew, SX.stepStore, SX.stepKeep, SX.guardIx, SX.evOp, SX.opd, SX.opds, SX.optOpd, SX.look, SX.putS, SX.gobs, SX.AllP, SX.leave, SX.lookC, SX.lookB, SX.lookT, SX.lookN, SX.findK, SX.evBuiltin, SX.ints, SX.foldI, SX.evBin, SX.evInt, SX.evStr, SX.evEq, SX.arith, SX.evLoad, SX.shapeUp, SX.evFieldAddr, SX.evField, SX.evIndexAddr, SX.evIndex, SX.evFill, SX.evBuild, SX.szs, SX.cellsV, SX.evNew, SX.evStore, SX.spliceL, SX.SV.cells, SX.evConv, SX.evSlice, SX.bnd, SX.evNil, SX.evUn, SX.evPick, SX.pickOpd, SX.popTo, SX.cnd, SX.env0, SX.TD.isAgg, SX.TD.isIface, SX.tails, SX.NotAgg, SX.evLookup, SX.evConvH, SX.evPtrEq, SX.isCells, Go.Value.cells, cfg8, Try.f8]
  refine ⟨by (unfold SX.Ob; first | trivial | omega | ((try simp only [SX.inK]); (try simp [SX.den, SX.IsU8, *]); (try omega))), ?_⟩
  intro a1 w1 hr1 _
  have hz1 : w.heap.size ≤ w1.heap.size := hr1.keeps.size
  refine post_call 10 [] hr1 (wanted_none rfl) rfl (callable 10 Try.func10) (new_ok w1) ?_
  rintro e w2 ⟨b, rfl, hb, hT2, hb2⟩
  have hwb : w.heap.size ≤ b := by omega
  refine ⟨_, rfl, ?_⟩
  have h2 := hr1.ret hb2 2 (.ptr 0 b 0) rfl [] trivial (by simp) rfl
  refine seg cfg8_ok mixed PanicFree.body 1000 [false] [] h2.rebase (by first | trivial | exact HpRep.nil | assumption) (by kernel_rfl) fun s_ hs_ => ?_
  simp (maxSteps := 10000000) [SX.vc, SX.stop, SX.contS, SX.contB, SX.contW, SX.contR, SX.contD, SX.sxStep, SX.stepPure, SX.stepNew, SX.stepStore, SX.stepKeep, SX.guardIx, SX.evOp, SX.opd, SX.opds, SX.optOpd, SX.look, SX.putS, SX.gobs, SX.AllP, SX.leave, SX.lookC, SX.lookB, SX.lookT, SX.lookN, SX.findK, SX.evBuiltin, SX.ints, SX.foldI, SX.evBin, SX.evInt, SX.evStr, SX.evEq, SX.arith, SX.evLoad, SX.shapeUp, SX.evFieldAddr, SX.evField, SX.evIndexAddr, SX.evIndex, SX.evFill, SX.evBuild, SX.szs, SX.cellsV, SX.evNew, SX.evStore, SX.spliceL, SX.SV.cells, SX.evConv, SX.evSlice, SX.bnd, SX.evNil, SX.evUn, SX.evPick, SX.pickOpd, SX.popTo, SX.cnd, SX.env0, SX.TD.isAgg, SX.TD.isIface, SX.tails, SX.NotAgg, SX.evLookup, SX.evConvH, SX.evPtrEq, SX.isCells, Go.Value.cells, cfg8]
  refine ⟨by (unfold SX.Ob; first | trivial | omega | ((try simp only [SX.inK]); (try simp [SX.den, SX.IsU8, *]); (try omega))), ?_⟩
  intro a3 w3 hr3' _
  have hr3 := h2.unbase hr3'
  have hT3 := hT2.keepK hr3'.keeps (by simp [frameAt, mutB])
  have hA := hr3.all
  obtain ⟨s_0, hs00⟩ : ∃ x, x = s_ := ⟨_, rfl⟩
  subst hs00
  have hsb : b < s_0 := by have := hT2.lt; omega
  obtain ⟨w4, fz, hcv, hk4, hA4⟩ := conv22 (n := 9) (cap := 9) hA.1.1
  refine post_step rfl (exec_conv (st := _) (c := 0) (y := .sl 0 s_0 0 0 9 9 1) (hr3.env.same rfl rfl rfl rfl) rfl rfl rfl hcv) ?_
  have hw3 : w.heap.size ≤ s_0 := by omega
  have h4 := hr3.retK hk4 (fun x hx => .inl (by simp at hx; subst hx; exact hw3)) 7 (.sl 0 s_0 0 0 9 9 1) rfl [(s_0, false, .arr 0 9 _ 1 5 fz)] ⟨⟨hA4, by simp, by simp⟩, trivial⟩ (by simp) rfl
  have hT4 := hT3.keepK hk4 (by simp; omega)
  refine seg cfg8_ok mixed PanicFree.body 1000 [] [] h4.rebase (by first | trivial | exact HpRep.nil | assumption) (by kernel_rfl) fun s_ hs_ => ?_
  simp (maxSteps := 10000000) [SX.vc, SX.stop, SX.contS, SX.contB, SX.contW, SX.contR, SX.contD, SX.sxStep, SX.stepPure, SX.stepNew, SX.stepStore, SX.stepKeep, SX.guardIx, SX.evOp, SX.opd, SX.opds, SX.optOpd, SX.look, SX.putS, SX.gobs, SX.AllP, SX.leave, SX.lookC, SX.lookB, SX.lookT, SX.lookN, SX.findK, SX.evBuiltin, SX.ints, SX.foldI, SX.evBin, SX.evInt, SX.evStr, SX.evEq, SX.arith, SX.evLoad, SX.shapeUp, SX.evFieldAddr, SX.evField, SX.evIndexAddr, SX.evIndex, SX.evFill, SX.evBuild, SX.szs, SX.cellsV, SX.evNew, SX.evStore, SX.spliceL, SX.SV.cells, SX.evConv, SX.evSlice, SX.bnd, SX.evNil, SX.evUn, SX.evPick, SX.pickOpd, SX.popTo, SX.cnd, SX.env0, SX.TD.isAgg, SX.TD.isIface, SX.tails, SX.NotAgg, SX.evLookup, SX.evConvH, SX.evPtrEq, SX.isCells, Go.Value.cells, cfg8]
  refine ⟨by (unfold SX.Ob; first | trivial | omega | ((try simp only [SX.inK]); (try simp [SX.den, SX.IsU8, *]); (try omega))), ?_⟩
  intro a5 w5 hr5' _
  obtain ⟨s_1, hs11⟩ : ∃ x, x = s_ := ⟨_, rfl⟩
  subst hs11
  have hz4 : s_0 < w4.heap.size := SO.rep_lt hA4
  have hr5 := h4.unbase hr5'
  have hT5 := hT4.keepK hr5'.keeps (by simp [frameAt, mutB])
  have hA5 := hr5.all
  have hB5 : BV b w5 (.slice (some ⟨s_0, 0, none⟩) 9 9) 9 digit := BV.of (by omega) (Nat.le_refl _) (by omega) hA5.1.1 fun j hj => by
    rcases j with _ | _ | _ | _ | _ | _ | _ | _ | _ | j <;> first | rfl | omega
  have hL5 : LV b w5 (.slice (some ⟨s_1, 0, none⟩) 1 1) 1 (fun _ => 9) (fun _ => digit) := LV.one (Nat.le_refl _) (by omega) hA5.2.1.1 rfl hB5 (by omega)
  refine post_call 11 [.ptr 0 b 0, .sl 1 s_1 0 0 1 1 1] hr5 (wanted_none rfl) rfl (callable 11 Try.func11) (sum_ok w5 b 0 hT5 (by unfold inK; omega) _ 1 _ _ hL5 (by omega)) ?_
  rintro e w6 ⟨he, hk6, hT6⟩
  rw [sum9] at he
  subst he
  refine ⟨_, rfl, ?_⟩
  have h6 := hr5.retK hk6 (fun x hx => .inl (by simp at hx; subst hx; exact hwb)) 9 (.v (.int .u32 3808858755)) rfl [] trivial (by simp) rfl
  refine seg cfg8_ok mixed PanicFree.body 1000 [] [(11, true)] h6.rebase (by first | trivial | exact HpRep.nil | assumption) (by kernel_rfl) fun s_ hs_ => ?_
  simp (maxSteps := 10000000) [SX.vc, SX.stop, SX.contS, SX.contB, SX.contW, SX.contR, SX.contD, SX.sxStep, SX.stepPure, SX.stepNew, SX.stepStore, SX.stepKeep, SX.guardIx, SX.evOp, SX.opd, SX.opds, SX.optOpd, SX.look, SX.putS, SX.gobs, SX.AllP, SX.leave, SX.lookC, SX.lookB, SX.lookT, SX.lookN, SX.findK, SX.evBuiltin, SX.ints, SX.foldI, SX.evBin, SX.evInt, SX.evStr, SX.evEq, SX.arith, SX.evLoad, SX.shapeUp, SX.evFieldAddr, SX.evField, SX.evIndexAddr, SX.evIndex, SX.evFill, SX.evBuild, SX.szs, SX.cellsV, SX.evNew, SX.evStore, SX.spliceL, SX.SV.cells, SX.evConv, SX.evSlice, SX.bnd, SX.evNil, SX.evUn, SX.evPick, SX.pickOpd, SX.popTo, SX.cnd, SX.env0, SX.TD.isAgg, SX.TD.isIface, SX.tails, SX.NotAgg, SX.evLookup, SX.evConvH, SX.evPtrEq, SX.isCells, Go.Value.cells, cfg8]
  refine ⟨by (unfold SX.Ob; first | trivial | omega | ((try simp only [SX.inK]); (try simp [SX.den, SX.IsU8, *]); (try omega))), ?_⟩
  intro a7 w7 hr7' _
  obtain ⟨s_2, hs22⟩ : ∃ x, x = s_ := ⟨_, rfl⟩
  subst hs22
  have hb7 := hT6.lt
  have hr7 := h6.unbase hr7'
  have hT7 := hT6.keepK hr7'.keeps (by simp [frameAt, mutB])
  have hA7 := hr7.all
  have hB7 : BV b w7 (.slice (some ⟨s_2, 0, none⟩) 1 1) 1 (fun _ => 0#8) := BV.of (by omega) (Nat.le_refl _) (by omega) hA7.1.1 fun j hj => by
    obtain rfl : j = 0 := by omega
    rfl
  have hL7 : LV b w7 (.slice (some ⟨s_2 + 1, 0, none⟩) 1 1) 1 (fun _ => 1) (fun _ _ => 0#8) := LV.one (Nat.le_refl _) (by omega) hA7.2.1.1 rfl hB7 (by omega)
  refine post_call 11 [.ptr 0 b 0, .sl 1 (s_2 + 1) 0 0 1 1 1] hr7 (wanted_zero (hr7.env.same rfl rfl rfl rfl) rfl (by simp)) rfl (callable 11 Try.func11) (sum_ok w7 b _ hT7 (by unfold inK; omega) _ 1 _ _ hL7 (by omega)) ?_
  rintro e w8 ⟨he, hk8, hT8⟩
  rw [sum1] at he
  subst he
  refine ⟨_, rfl, ?_⟩
  have h8 := hr7.retK hk8 (fun x hx => .inl (by simp at hx; subst hx; exact hwb)) 15 (.v (.int .u32 1383945041)) rfl [] trivial (by simp) rfl
  refine seg cfg8_ok mixed PanicFree.body 1000 [] [(11, true), (18, true)] h8.rebase (by first | trivial | exact HpRep.nil | assumption) (by kernel_rfl) fun s_ hs_ => ?_
  simp (maxSteps := 10000000) [SX.vc, SX.stop, SX.contS, SX.contB, SX.contW, SX.contR, SX.contD, SX.sxStep, SX.stepPure, SX.stepNew, SX.stepStore, SX.stepKeep, SX.guardIx, SX.evOp, SX.opd, SX.opds, SX.optOpd, SX.look, SX.putS, SX.gobs, SX.AllP, SX.leave, SX.lookC, SX.lookB, SX.lookT, SX.lookN, SX.findK, SX.evBuiltin, SX.ints, SX.foldI, SX.evBin, SX.evInt, SX.evStr, SX.evEq, SX.arith, SX.evLoad, SX.shapeUp, SX.evFieldAddr, SX.evField, SX.evIndexAddr, SX.evIndex, SX.evFill, SX.evBuild, SX.szs, SX.cellsV, SX.evNew, SX.evStore, SX.spliceL, SX.SV.cells, SX.evConv, SX.evSlice, SX.bnd, SX.evNil, SX.evUn, SX.evPick, SX.pickOpd, SX.popTo, SX.cnd, SX.env0, SX.TD.isAgg, SX.TD.isIface, SX.tails, SX.NotAgg, SX.evLookup, SX.evConvH, SX.evPtrEq, SX.isCells, Go.Value.cells, cfg8]
  refine ⟨by (unfold SX.Ob; first | trivial | omega | ((try simp only [SX.inK]); (try simp [SX.den, SX.IsU8, *]); (try omega))), ?_⟩
  intro a9 w9 hr9' _
  have hr9 := h8.unbase hr9'
  have hT9 := hT8.keepK hr9'.keeps (by simp [frameAt, mutB])
  refine post_call 11 [.ptr 0 b 0, .v (.slice none 0 0)] hr9 (wanted_zero (hr9.env.same rfl rfl rfl rfl) rfl (by simp)) rfl (callable 11 Try.func11) (sum_ok w9 b _ hT9 (by unfold inK; omega) _ 0 (fun _ => 0) (fun _ _ => 0#8) (.inl ⟨rfl, none, 0, rfl⟩) (by omega)) ?_
  rintro e w10 ⟨he, hk10, hT10⟩
  rw [sum0] at he
  subst he
  refine ⟨_, rfl, ?_⟩
  have h10 := hr9.retK hk10 (fun x hx => .inl (by simp at hx; subst hx; exact hwb)) 20 (.v (.int .u32 0)) rfl [] trivial (by simp) rfl
  refine seg cfg8_ok mixed PanicFree.body 1000 [] [(18, true), (23, true)] h10.rebase (by first | trivial | exact HpRep.nil | assumption) (by kernel_rfl) fun s_ hs_ => ?_
  simp (maxSteps := 10000000) [SX.vc, SX.stop, SX.contS, SX.contB, SX.contW, SX.contR, SX.contD, SX.sxStep, SX.stepPure, SX.stepNew, SX.stepStore, SX.stepKeep, SX.guardIx, SX.evOp, SX.opd, SX.opds, SX.optOpd, SX.look, SX.putS, SX.gobs, SX.AllP, SX.leave, SX.lookC, SX.lookB, SX.lookT, SX.lookN, SX.findK, SX.evBuiltin, SX.ints, SX.foldI, SX.evBin, SX.evInt, SX.evStr, SX.evEq, SX.arith, SX.evLoad, SX.shapeUp, SX.evFieldAddr, SX.evField, SX.evIndexAddr, SX.evIndex, SX.evFill, SX.evBuild, SX.szs, SX.cellsV, SX.evNew, SX.evStore, SX.spliceL, SX.SV.cells, SX.evConv, SX.evSlice, SX.bnd, SX.evNil, SX.evUn, SX.evPick, SX.pickOpd, SX.popTo, SX.cnd, SX.env0, SX.TD.isAgg, SX.TD.isIface, SX.tails, SX.NotAgg, SX.evLookup, SX.evConvH, SX.evPtrEq, SX.isCells, Go.Value.cells, cfg8]
  refine ⟨by (unfold SX.Ob; first | trivial | omega | ((try simp only [SX.inK]); (try simp [SX.den, SX.IsU8, *]); (try omega))), ?_⟩
  intro a11 w11 hr11' _
  have hr11 := h10.unbase hr11'
  have hT11 := hT10.keepK hr11'.keeps (by simp [frameAt, mutB])
  refine post_call 16 [.ptr 0 b 0] hr11 (wanted_zero (hr11.env.same rfl rfl rfl rfl) rfl (by simp)) rfl (callable 16 Try.func16) (used_ok w11 b _ hT11) ?_
  rintro e w12 ⟨rfl, hb12⟩
  refine ⟨_, rfl, ?_⟩
  have h12 := hr11.ret hb12 25 (.v (.int .i64 3)) rfl [] trivial (by simp) rfl
  refine seg cfg8_ok mixed PanicFree.body 1000 [] [(23, true)] h12 (by first | trivial | exact HpRep.nil | assumption) (by kernel_rfl) fun s_ hs_ => ?_
  simp (maxSteps := 10000000) [SX.vc, SX.stop, SX.contS, SX.contB, SX.contW, SX.contR, SX.contD, SX.sxStep, SX.stepPure, SX.stepNew, SX.stepStore, SX.stepKeep, SX.guardIx, SX.evOp, SX.opd, SX.opds, SX.optOpd, SX.look, SX.putS, SX.gobs, SX.AllP, SX.leave, SX.lookC, SX.lookB, SX.lookT, SX.lookN, SX.findK, SX.evBuiltin, SX.ints, SX.foldI, SX.evBin, SX.evInt, SX.evStr, SX.evEq, SX.arith, SX.evLoad, SX.shapeUp, SX.evFieldAddr, SX.evField, SX.evIndexAddr, SX.evIndex, SX.evFill, SX.evBuild, SX.szs, SX.cellsV, SX.evNew, SX.evStore, SX.spliceL, SX.SV.cells, SX.evConv, SX.evSlice, SX.bnd, SX.evNil, SX.evUn, SX.evPick, SX.pickOpd, SX.popTo, SX.cnd, SX.env0, SX.TD.isAgg, SX.TD.isIface, SX.tails, SX.NotAgg, SX.evLookup, SX.evConvH, SX.evPtrEq, SX.isCells, Go.Value.cells, cfg8]
  refine ⟨by (unfold SX.Ob; first | trivial | omega | ((try simp only [SX.inK]); (try simp [SX.den, SX.IsU8, *]); (try omega))), ?_⟩
  intro a13 w13 hr13 _
  exact post_retn (end1 hr13 rfl rfl ⟨rfl, hr13.keeps.toBelow⟩).1
end Go.Proofs
