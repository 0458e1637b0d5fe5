/- The law CrcParts, walked. -/
import Derived.Test.YtcepnjkcdkkdpaaRN
namespace Go.Proofs
set_option linter.unusedVariables false
set_option linter.unusedSimpArgs false
open Go Go.SX Go.RowKit Go.Crc

theorem BV.at_ {w w' : World} {v : Value} {n : Nat} {g : Nat → BitVec 8} (h : ∀ b, w.heap.size ≤ b → BV b w v n g) (hk : Keeps (frame0 w) w') : ∀ b, w.heap.size ≤ b → BV b w' v n g := fun b hb => (h b hb).keep (KeepsTo.weak (M := []) hk (by simp))

def two {α : Type} (x y : α) (j : Nat) : α := if j = 0 then x else y

theorem LV.two {b : Nat} {w : World} {lb : Nat} {va vb : Value} {na nb : Nat} {ga gb : Nat → BitVec 8} {row : Nat → List SV} {N cap : Nat} {u : TypeId} {fz : Nat × Nat} (hN : 2 ≤ N) (hne : lb ≠ b) (hr : (SO.arr 0 N row 1 u fz).rep w lb) (h0 : denL (row 0) = [va]) (h1 : denL (row 1) = [vb])
    (hA : BV b w va na ga) (hB : BV b w vb nb gb) (ha : na ≤ 9223372036854775807) (hb : nb ≤ 9223372036854775807) : LV b w (.slice (some ⟨lb, 0, none⟩) 2 cap) 2 (Go.Proofs.two na nb) (Go.Proofs.two ga gb) := by
  refine .inr ⟨by omega, lb, 0, 2, cap, u, fz, Go.Proofs.two va vb, hne, rfl, Nat.le_refl _, rep_arr_sub hr hN fun j hj => ?_, fun j hj => ?_⟩
  · obtain rfl | rfl : j = 0 ∨ j = 1 := by omega
    · rw [h0]; rfl
    · rw [h1]; rfl
  · obtain rfl | rfl : j = 0 ∨ j = 1 := by omega
    · exact ⟨hA, ha⟩
    · exact ⟨hB, hb⟩

theorem bigX_two {na nb : Nat} (ha : na ≤ 1000000000000000000) (hb : nb ≤ 1000000000000000000) : bigX (two na nb) 2 = (na : Int) + nb + 2 := by
  have h1 : bigX (two na nb) 1 = (na : Int) + 1 := bigX_one ha
  show IntKind.i64.wrap (bigX (two na nb) 1 + IntKind.i64.wrap ((nb : Int) + 1)) = _
  rw [h1, wrap_inK (x := (nb : Int) + 1) (by unfold inK; omega), wrap_inK (by unfold inK; omega)]
  omega

theorem go_catB (r : BitVec 32) (g h : Nat → BitVec 8) (n m : Nat) : go r (catB n g h) (n + m) = go (go r g n) h m := go_cat r g h n m

set_option maxRecDepth 100000 in
set_option maxHeartbeats 16000000 in
theorem parts_ok (w : World) (va vb : Value) (na nb : Nat) (ga gb : Nat → BitVec 8) (hA : ∀ b, w.heap.size ≤ b → BV b w va na ga) (hB : ∀ b, w.heap.size ≤ b → BV b w vb nb gb) (ha : na ≤ 140737488351232) (hb : nb ≤ 140737488351232) :
    Calls Try.prog 6 (denL [.v va, .v vb]).toArray w (LivePost w) := by
  obtain ⟨aa, ca, rfl⟩ := (hA w.heap.size (Nat.le_refl _)).slice
  obtain ⟨ab, cb, rfl⟩ := (hB w.heap.size (Nat.le_refl _)).slice
  refine enter (F := frame0 w) Try.func6 rfl [.v (.slice aa na ca), .v (.slice ab nb cb)] [] (by simp [Try.f6]) trivial (keeps0 w) fun a hr => ?_
  refine seg cfg6_ok mixed PanicFree.body 1000 [] [] hr (by first | trivial | exact HpRep.nil | assumption) (by kernel_rfl) fun s_ hs_ => ?_
  simp (maxSteps := 10000000) [SX.vc, SX.stop, SX.contS, SX.contB, SX.contW, SX.contR, SX.contD, SX.sxStep, SX.stepPure, SX.stepNew, SX.stepStore, SX.stepKeep, SX.guardIx, SX.evOp, SX.opd, SX.opds, SX.optOpd, SX.look, SX.putS, SX.gobs, SX.AllP, SX.leave, SX.lookC, SX.lookB, SX.lookT, SX.lookN, SX.findK, SX.evBuiltin, SX.ints, SX.foldI, SX.evBin, SX.evInt, SX.evStr, SX.evEq, SX.arith, SX.evLoad, SX.shapeUp, SX.evFieldAddr, SX.evField, SX.evIndexAddr, SX.evIndex, SX.evFill, SX.evBuild, SX.szs, SX.cellsV, SX.evNew, SX.evStore, SX.spliceL, SX.SV.cells, SX.evConv, SX.evSlice, SX.bnd, SX.evNil, SX.evUn, SX.evPick, SX.pickOpd, SX.popTo, SX.cnd, SX.env0, SX.TD.isAgg, SX.TD.isIface, SX.tails, SX.NotAgg, SX.evLookup, SX.evConvH, SX.evPtrEq, SX.isCells, Go.Value.cells, cfg6, Try.f6]
  refine ⟨by (unfold SX.Ob; first | trivial | omega | ((try simp only [SX.inK]); (try simp [SX.den, SX.IsU8, *]); (try omega))), ?_⟩
  intro a1 w1 hr1 _
  refine post_call 8 [] hr1 (wanted_none rfl) rfl (callable 8 Try.func8) (live_ok w1) ?_
  rintro e w2 ⟨rfl, hb2⟩
  refine ⟨_, rfl, ?_⟩
  have h2 := hr1.ret hb2 8 (.v (.bool true)) rfl [] trivial (by simp) rfl
  refine seg cfg6_ok mixed PanicFree.body 1000 [] [] h2 (by first | trivial | exact HpRep.nil | assumption) (by kernel_rfl) fun s_ hs_ => ?_
  simp (maxSteps := 10000000) [SX.vc, SX.stop, SX.contS, SX.contB, SX.contW, SX.contR, SX.contD, SX.sxStep, SX.stepPure, SX.stepNew, SX.stepStore, SX.stepKeep, SX.guardIx, SX.evOp, SX.opd, SX.opds, SX.optOpd, SX.look, SX.putS, SX.gobs, SX.AllP, SX.leave, SX.lookC, SX.lookB, SX.lookT, SX.lookN, SX.findK, SX.evBuiltin, SX.ints, SX.foldI, SX.evBin, SX.evInt, SX.evStr, SX.evEq, SX.arith, SX.evLoad, SX.shapeUp, SX.evFieldAddr, SX.evField, SX.evIndexAddr, SX.evIndex, SX.evFill, SX.evBuild, SX.szs, SX.cellsV, SX.evNew, SX.evStore, SX.spliceL, SX.SV.cells, SX.evConv, SX.evSlice, SX.bnd, SX.evNil, SX.evUn, SX.evPick, SX.pickOpd, SX.popTo, SX.cnd, SX.env0, SX.TD.isAgg, SX.TD.isIface, SX.tails, SX.NotAgg, SX.evLookup, SX.evConvH, SX.evPtrEq, SX.isCells, Go.Value.cells, cfg6]
  refine ⟨by (unfold SX.Ob; first | trivial | omega | ((try simp only [SX.inK]); (try simp [SX.den, SX.IsU8, *]); (try omega))), ?_⟩
  intro a3 w3 hr3 _
  have hz3 : w.heap.size ≤ w3.heap.size := hr3.keeps.size
  have hL3 : LV w3.heap.size w3 (.slice (some ⟨s_, 0, none⟩) 2 2) 2 (two na nb) (two ga gb) := LV.two (Nat.le_refl _) (by have := SO.rep_lt hr3.all.1.1; omega) hr3.all.1.1 rfl rfl (BV.at_ hA hr3.keeps _ hz3) (BV.at_ hB hr3.keeps _ hz3) (by omega) (by omega)
  refine post_call 9 [.sl 0 s_ 0 0 2 2 1] hr3 (wanted_none rfl) rfl (callable 9 Try.func9) (big_ok w3 _ 2 _ hL3.lens (by omega)) ?_
  rintro e w4 ⟨rfl, hb4⟩
  refine ⟨_, rfl, ?_⟩
  have h4 := hr3.ret hb4 12 (.v (.bool (decide (bigX (two na nb) 2 > 20000)))) rfl [] trivial (by simp) rfl
  by_cases ht : bigX (two na nb) 2 > 20000
  · refine seg cfg6_ok mixed PanicFree.body 1000 [true] [] h4 (by first | trivial | exact HpRep.nil | assumption) (by kernel_rfl) fun s_ hs_ => ?_
    simp (maxSteps := 10000000) [SX.vc, SX.stop, SX.contS, SX.contB, SX.contW, SX.contR, SX.contD, SX.sxStep, SX.stepPure, SX.stepNew, SX.stepStore, SX.stepKeep, SX.guardIx, SX.evOp, SX.opd, SX.opds, SX.optOpd, SX.look, SX.putS, SX.gobs, SX.AllP, SX.leave, SX.lookC, SX.lookB, SX.lookT, SX.lookN, SX.findK, SX.evBuiltin, SX.ints, SX.foldI, SX.evBin, SX.evInt, SX.evStr, SX.evEq, SX.arith, SX.evLoad, SX.shapeUp, SX.evFieldAddr, SX.evField, SX.evIndexAddr, SX.evIndex, SX.evFill, SX.evBuild, SX.szs, SX.cellsV, SX.evNew, SX.evStore, SX.spliceL, SX.SV.cells, SX.evConv, SX.evSlice, SX.bnd, SX.evNil, SX.evUn, SX.evPick, SX.pickOpd, SX.popTo, SX.cnd, SX.env0, SX.TD.isAgg, SX.TD.isIface, SX.tails, SX.NotAgg, SX.evLookup, SX.evConvH, SX.evPtrEq, SX.isCells, Go.Value.cells, cfg6, ht]
    refine ⟨by (unfold SX.Ob; first | trivial | omega | ((try simp only [SX.inK]); (try simp [SX.den, SX.IsU8, *]); (try omega))), ?_⟩
    intro a5 w5 hr5 _
    exact post_retn (end1 hr5 rfl rfl ⟨rfl, hr5.keeps.toBelow⟩).1
  have hsm : na + nb ≤ 20000 := by rw [bigX_two (by omega) (by omega)] at ht; omega
  refine seg cfg6_ok mixed PanicFree.body 1000 [false] [] h4 (by first | trivial | exact HpRep.nil | assumption) (by kernel_rfl) fun s_ hs_ => ?_
  simp (maxSteps := 10000000) [SX.vc, SX.stop, SX.contS, SX.contB, SX.contW, SX.contR, SX.contD, SX.sxStep, SX.stepPure, SX.stepNew, SX.stepStore, SX.stepKeep, SX.guardIx, SX.evOp, SX.opd, SX.opds, SX.optOpd, SX.look, SX.putS, SX.gobs, SX.AllP, SX.leave, SX.lookC, SX.lookB, SX.lookT, SX.lookN, SX.findK, SX.evBuiltin, SX.ints, SX.foldI, SX.evBin, SX.evInt, SX.evStr, SX.evEq, SX.arith, SX.evLoad, SX.shapeUp, SX.evFieldAddr, SX.evField, SX.evIndexAddr, SX.evIndex, SX.evFill, SX.evBuild, SX.szs, SX.cellsV, SX.evNew, SX.evStore, SX.spliceL, SX.SV.cells, SX.evConv, SX.evSlice, SX.bnd, SX.evNil, SX.evUn, SX.evPick, SX.pickOpd, SX.popTo, SX.cnd, SX.env0, SX.TD.isAgg, SX.TD.isIface, SX.tails, SX.NotAgg, SX.evLookup, SX.evConvH, SX.evPtrEq, SX.isCells, Go.Value.cells, cfg6, ht]
  refine ⟨by (unfold SX.Ob; first | trivial | omega | ((try simp only [SX.inK]); (try simp [SX.den, SX.IsU8, *]); (try omega))), ?_⟩
  intro a5 w5 hr5 _
  have hz5 : w.heap.size ≤ w5.heap.size := hr5.keeps.size
  refine post_call 10 [] hr5 (wanted_none rfl) rfl (callable 10 Try.func10) (new_ok w5) ?_
  rintro e w6 ⟨b, rfl, hbz, hT6, hb6⟩
  have hwb : w.heap.size ≤ b := by omega
  have hM : ∀ x ∈ [b], (frame0 w).B ≤ x ∨ x ∈ (frame0 w).M := fun x hx => .inl (by simp at hx; subst hx; exact hwb)
  refine ⟨_, rfl, ?_⟩
  have h6 := hr5.ret hb6 14 (.ptr 0 b 0) rfl [] trivial (by simp) rfl
  clear hr hr1 h2 hr3 h4 hr5 hL3 ht
  obtain ⟨Pp, hPp⟩ : ∃ Pp : Nat → Prop, Pp = fun x => w.heap.size ≤ x ∧ x ≠ b := ⟨_, rfl⟩
  have hPw : ∀ x, Pp x → w.heap.size ≤ x := fun x hx => by rw [hPp] at hx; exact hx.1
  have hPb : ∀ x, Pp x → x ≠ b := fun x hx => by rw [hPp] at hx; exact hx.2
  have hPn : ∀ {wk : World}, w.heap.size ≤ wk.heap.size → b < wk.heap.size → ∀ x, wk.heap.size ≤ x → Pp x := fun h1 h2 x hx => by rw [hPp]; exact ⟨by omega, by omega⟩
  clear hPp
  refine seg cfg6_ok mixed PanicFree.body 1000 [] [] h6.rebase (by first | trivial | exact HpRep.nil | assumption) (by kernel_rfl) fun s_ hs_ => ?_
  simp (maxSteps := 10000000) [SX.vc, SX.stop, SX.contS, SX.contB, SX.contW, SX.contR, SX.contD, SX.sxStep, SX.stepPure, SX.stepNew, SX.stepStore, SX.stepKeep, SX.guardIx, SX.evOp, SX.opd, SX.opds, SX.optOpd, SX.look, SX.putS, SX.gobs, SX.AllP, SX.leave, SX.lookC, SX.lookB, SX.lookT, SX.lookN, SX.findK, SX.evBuiltin, SX.ints, SX.foldI, SX.evBin, SX.evInt, SX.evStr, SX.evEq, SX.arith, SX.evLoad, SX.shapeUp, SX.evFieldAddr, SX.evField, SX.evIndexAddr, SX.evIndex, SX.evFill, SX.evBuild, SX.szs, SX.cellsV, SX.evNew, SX.evStore, SX.spliceL, SX.SV.cells, SX.evConv, SX.evSlice, SX.bnd, SX.evNil, SX.evUn, SX.evPick, SX.pickOpd, SX.popTo, SX.cnd, SX.env0, SX.TD.isAgg, SX.TD.isIface, SX.tails, SX.NotAgg, SX.evLookup, SX.evConvH, SX.evPtrEq, SX.isCells, Go.Value.cells, cfg6]
  refine ⟨by (unfold SX.Ob; first | trivial | omega | ((try simp only [SX.inK]); (try simp [SX.den, SX.IsU8, *]); (try omega))), ?_⟩
  intro a7 w7 hr7' _
  have hr7 := h6.unbase hr7'
  have hT7 := hT6.keep (by simpa [mutB] using hr7'.keeps.toBelow)
  obtain ⟨V1, w8, hrun8, ⟨M8, hk8, hM8⟩, hO8⟩ := app_own (ty := 22) (hPn hr7.keeps.size hT7.lt) (V := .slice none 0 0) (n := 0) (g := ga) (.inl ⟨rfl, rfl⟩) (fun x hx => BV.at_ hA hr7.keeps x (hPw x hx)) (by omega)
  refine post_step rfl ((evApp_sound (hr7.env.same rfl rfl rfl rfl) rfl w7).trans (by rw [show (Builtin.append_ #[22, 22] 22 #[den (.v (.slice none 0 0)), den (.v (.slice aa na ca))]).run Try.prog w7 = _ from hrun8]; rfl)) ?_
  have hT8 := hT7.keepK hk8 fun hm => hPb _ (hM8 _ hm) rfl
  have h8 := hr7.retK hk8 (fun x hx => .inl (hPw x (hM8 x hx))) 17 (.v V1) rfl [] trivial (by simp) rfl
  refine seg cfg6_ok mixed PanicFree.body 1000 [] [] h8.rebase (by first | trivial | exact HpRep.nil | assumption) (by kernel_rfl) fun s_ hs_ => ?_
  simp (maxSteps := 10000000) [SX.vc, SX.stop, SX.contS, SX.contB, SX.contW, SX.contR, SX.contD, SX.sxStep, SX.stepPure, SX.stepNew, SX.stepStore, SX.stepKeep, SX.guardIx, SX.evOp, SX.opd, SX.opds, SX.optOpd, SX.look, SX.putS, SX.gobs, SX.AllP, SX.leave, SX.lookC, SX.lookB, SX.lookT, SX.lookN, SX.findK, SX.evBuiltin, SX.ints, SX.foldI, SX.evBin, SX.evInt, SX.evStr, SX.evEq, SX.arith, SX.evLoad, SX.shapeUp, SX.evFieldAddr, SX.evField, SX.evIndexAddr, SX.evIndex, SX.evFill, SX.evBuild, SX.szs, SX.cellsV, SX.evNew, SX.evStore, SX.spliceL, SX.SV.cells, SX.evConv, SX.evSlice, SX.bnd, SX.evNil, SX.evUn, SX.evPick, SX.pickOpd, SX.popTo, SX.cnd, SX.env0, SX.TD.isAgg, SX.TD.isIface, SX.tails, SX.NotAgg, SX.evLookup, SX.evConvH, SX.evPtrEq, SX.isCells, Go.Value.cells, cfg6]
  refine ⟨by (unfold SX.Ob; first | trivial | omega | ((try simp only [SX.inK]); (try simp [SX.den, SX.IsU8, *]); (try omega))), ?_⟩
  intro a9 w9 hr9' _
  have hr9 := h8.unbase hr9'
  have hb9 : Below w8.heap.size w8 w9 := by simpa [mutB] using hr9'.keeps.toBelow
  have hT9 := hT8.keep hb9
  obtain ⟨V2, w10, hrun10, ⟨M10, hk10, hM10⟩, hO10⟩ := app_own (ty := 22) (hPn hr9.keeps.size hT9.lt) (hO8.keep hb9) (fun x hx => BV.at_ hB hr9.keeps x (hPw x hx)) (by omega)
  refine post_step rfl ((evApp_sound (hr9.env.same rfl rfl rfl rfl) rfl w9).trans (by rw [show (Builtin.append_ #[22, 22] 22 #[den (.v V1), den (.v (.slice ab nb cb))]).run Try.prog w9 = _ from hrun10]; rfl)) ?_
  have hT10 := hT9.keepK hk10 fun hm => hPb _ (hM10 _ hm) rfl
  obtain ⟨G, hG⟩ : ∃ G, G = catB (0 + na) (catB 0 ga ga) gb := ⟨_, rfl⟩
  have hV10 : BV b w10 V2 (na + nb) G := by
    have h := hO10.bv hPb
    rw [← hG, show 0 + na + nb = na + nb by omega] at h
    exact h
  obtain ⟨a2, c2, rfl⟩ := hV10.slice
  have h10 := hr9.retK hk10 (fun x hx => .inl (hPw x (hM10 x hx))) 19 (.v (.slice a2 (na + nb) c2)) rfl [] trivial (by simp) rfl
  obtain ⟨rA, hrA⟩ : ∃ rA, rA = go ones ga na := ⟨_, rfl⟩
  obtain ⟨rW, hrW⟩ : ∃ rW, rW = ~~~ go rA gb nb := ⟨_, rfl⟩
  have hcat : ~~~ sumN (fun _ => na + nb) (fun _ => G) 1 = rW := by
    show ~~~ go ones G (na + nb) = rW
    rw [hG, show na + nb = 0 + na + nb by omega, go_catB, go_catB, hrW, hrA]; rfl
  clear hG
  refine seg cfg6_ok mixed PanicFree.body 1000 [] [] h10.rebase (by first | trivial | exact HpRep.nil | assumption) (by kernel_rfl) fun s_ hs_ => ?_
  simp (maxSteps := 10000000) [SX.vc, SX.stop, SX.contS, SX.contB, SX.contW, SX.contR, SX.contD, SX.sxStep, SX.stepPure, SX.stepNew, SX.stepStore, SX.stepKeep, SX.guardIx, SX.evOp, SX.opd, SX.opds, SX.optOpd, SX.look, SX.putS, SX.gobs, SX.AllP, SX.leave, SX.lookC, SX.lookB, SX.lookT, SX.lookN, SX.findK, SX.evBuiltin, SX.ints, SX.foldI, SX.evBin, SX.evInt, SX.evStr, SX.evEq, SX.arith, SX.evLoad, SX.shapeUp, SX.evFieldAddr, SX.evField, SX.evIndexAddr, SX.evIndex, SX.evFill, SX.evBuild, SX.szs, SX.cellsV, SX.evNew, SX.evStore, SX.spliceL, SX.SV.cells, SX.evConv, SX.evSlice, SX.bnd, SX.evNil, SX.evUn, SX.evPick, SX.pickOpd, SX.popTo, SX.cnd, SX.env0, SX.TD.isAgg, SX.TD.isIface, SX.tails, SX.NotAgg, SX.evLookup, SX.evConvH, SX.evPtrEq, SX.isCells, Go.Value.cells, cfg6]
  refine ⟨by (unfold SX.Ob; first | trivial | omega | ((try simp only [SX.inK]); (try simp [SX.den, SX.IsU8, *]); (try omega))), ?_⟩
  intro a11 w11 hr11' _
  obtain ⟨s_11, hs11⟩ : ∃ x, x = s_ := ⟨_, rfl⟩
  subst hs11
  have hr11 := h10.unbase hr11'
  have hb11 : Below w10.heap.size w10 w11 := by simpa [mutB] using hr11'.keeps.toBelow
  have hl11 := hT10.lt
  have hT11 := hT10.keep hb11
  have hVw : BV b w11 (.slice a2 (na + nb) c2) (na + nb) G := hV10.below hb11
  have hL11 : LV b w11 (.slice (some ⟨s_11, 0, none⟩) 1 1) 1 (fun _ => na + nb) (fun _ => G) := LV.one (Nat.le_refl _) (by omega) hr11.all.1.1 rfl hVw (by omega)
  refine post_call 11 [.ptr 0 b 0, .sl 0 s_11 0 0 1 1 1] hr11 (wanted_none rfl) rfl (callable 11 Try.func11) (sum_ok w11 b _ hT11 (by unfold inK; omega) _ 1 _ _ hL11 (by omega)) ?_
  rintro e w12 ⟨he12, hk12, hT12⟩
  have he12' : e = .returned (.int .u32 (rv (rW))) := by rw [he12]; rw [hcat]
  subst he12'
  clear he12
  refine ⟨_, rfl, ?_⟩
  have h12 := hr11.retK hk12 hM 21 (.v (.int .u32 (rv (rW)))) rfl [] trivial (by simp) rfl
  refine seg cfg6_ok mixed PanicFree.body 1000 [] [(23, true), (32, true), (43, true), (59, true)] h12.rebase (by first | trivial | exact HpRep.nil | assumption) (by kernel_rfl) fun s_ hs_ => ?_
  simp (maxSteps := 10000000) [SX.vc, SX.stop, SX.contS, SX.contB, SX.contW, SX.contR, SX.contD, SX.sxStep, SX.stepPure, SX.stepNew, SX.stepStore, SX.stepKeep, SX.guardIx, SX.evOp, SX.opd, SX.opds, SX.optOpd, SX.look, SX.putS, SX.gobs, SX.AllP, SX.leave, SX.lookC, SX.lookB, SX.lookT, SX.lookN, SX.findK, SX.evBuiltin, SX.ints, SX.foldI, SX.evBin, SX.evInt, SX.evStr, SX.evEq, SX.arith, SX.evLoad, SX.shapeUp, SX.evFieldAddr, SX.evField, SX.evIndexAddr, SX.evIndex, SX.evFill, SX.evBuild, SX.szs, SX.cellsV, SX.evNew, SX.evStore, SX.spliceL, SX.SV.cells, SX.evConv, SX.evSlice, SX.bnd, SX.evNil, SX.evUn, SX.evPick, SX.pickOpd, SX.popTo, SX.cnd, SX.env0, SX.TD.isAgg, SX.TD.isIface, SX.tails, SX.NotAgg, SX.evLookup, SX.evConvH, SX.evPtrEq, SX.isCells, Go.Value.cells, cfg6]
  refine ⟨by (unfold SX.Ob; first | trivial | omega | ((try simp only [SX.inK]); (try simp [SX.den, SX.IsU8, *]); (try omega))), ?_⟩
  intro a13 w13 hr13' _
  obtain ⟨s_13, hs13⟩ : ∃ x, x = s_ := ⟨_, rfl⟩
  subst hs13
  have hr13 := h12.unbase hr13'
  have hb13 : Below w12.heap.size w12 w13 := by simpa [mutB] using hr13'.keeps.toBelow
  have hl13 := hT12.lt
  have hT13 := hT12.keep hb13
  have hL13 : LV b w13 (.slice (some ⟨s_13, 0, none⟩) 2 2) 2 (two na nb) (two ga gb) := LV.two (Nat.le_refl _) (by omega) hr13.all.1.1 rfl rfl (BV.at_ hA hr13.keeps b hwb) (BV.at_ hB hr13.keeps b hwb) (by omega) (by omega)
  refine post_call 11 [.ptr 0 b 0, .sl 0 s_13 0 0 2 2 1] hr13 (wanted_zero (hr13.env.same rfl rfl rfl rfl) rfl (by simp)) rfl (callable 11 Try.func11) (sum_ok w13 b _ hT13 (by unfold inK; omega) _ 2 _ _ hL13 (by omega)) ?_
  rintro e w14 ⟨he14, hk14, hT14⟩
  have he14' : e = .returned (.int .u32 (rv rW)) := by rw [he14, hrW, hrA]; rfl
  subst he14'
  clear he14
  refine ⟨_, rfl, ?_⟩
  have h14 := hr13.retK hk14 hM 28 (.v (.int .u32 (rv rW))) rfl [] trivial (by simp) rfl
  refine seg cfg6_ok mixed PanicFree.body 1000 [] [(23, true), (32, true), (43, true), (59, true)] h14.rebase (by first | trivial | exact HpRep.nil | assumption) (by kernel_rfl) fun s_ hs_ => ?_
  simp (maxSteps := 10000000) [SX.vc, SX.stop, SX.contS, SX.contB, SX.contW, SX.contR, SX.contD, SX.sxStep, SX.stepPure, SX.stepNew, SX.stepStore, SX.stepKeep, SX.guardIx, SX.evOp, SX.opd, SX.opds, SX.optOpd, SX.look, SX.putS, SX.gobs, SX.AllP, SX.leave, SX.lookC, SX.lookB, SX.lookT, SX.lookN, SX.findK, SX.evBuiltin, SX.ints, SX.foldI, SX.evBin, SX.evInt, SX.evStr, SX.evEq, SX.arith, SX.evLoad, SX.shapeUp, SX.evFieldAddr, SX.evField, SX.evIndexAddr, SX.evIndex, SX.evFill, SX.evBuild, SX.szs, SX.cellsV, SX.evNew, SX.evStore, SX.spliceL, SX.SV.cells, SX.evConv, SX.evSlice, SX.bnd, SX.evNil, SX.evUn, SX.evPick, SX.pickOpd, SX.popTo, SX.cnd, SX.env0, SX.TD.isAgg, SX.TD.isIface, SX.tails, SX.NotAgg, SX.evLookup, SX.evConvH, SX.evPtrEq, SX.isCells, Go.Value.cells, cfg6]
  refine ⟨by (unfold SX.Ob; first | trivial | omega | ((try simp only [SX.inK]); (try simp [SX.den, SX.IsU8, *]); (try omega))), ?_⟩
  intro a15 w15 hr15' _
  obtain ⟨s_15, hs15⟩ : ∃ x, x = s_ := ⟨_, rfl⟩
  subst hs15
  have hr15 := h14.unbase hr15'
  have hb15 : Below w14.heap.size w14 w15 := by simpa [mutB] using hr15'.keeps.toBelow
  have hl15 := hT14.lt
  have hT15 := hT14.keep hb15
  have hL15 : LV b w15 (.slice (some ⟨s_15, 0, none⟩) 1 1) 1 (fun _ => na) (fun _ => ga) := LV.one (Nat.le_refl _) (by omega) hr15.all.1.1 rfl (BV.at_ hA hr15.keeps b hwb) (by omega)
  refine post_call 11 [.ptr 0 b 0, .sl 0 s_15 0 0 1 1 1] hr15 (wanted_zero (hr15.env.same rfl rfl rfl rfl) rfl (by simp)) rfl (callable 11 Try.func11) (sum_ok w15 b _ hT15 (by unfold inK; omega) _ 1 _ _ hL15 (by omega)) ?_
  rintro e w16 ⟨he16, hk16, hT16⟩
  have he16' : e = .returned (.int .u32 (rv (~~~ rA))) := by rw [he16]; rw [hrA]; rfl
  subst he16'
  clear he16
  refine ⟨_, rfl, ?_⟩
  have h16 := hr15.retK hk16 hM 37 (.v (.int .u32 (rv (~~~ rA)))) rfl [] trivial (by simp) rfl
  refine seg cfg6_ok mixed PanicFree.body 1000 [] [(23, true), (32, true), (43, true), (59, true)] h16.rebase (by first | trivial | exact HpRep.nil | assumption) (by kernel_rfl) fun s_ hs_ => ?_
  simp (maxSteps := 10000000) [SX.vc, SX.stop, SX.contS, SX.contB, SX.contW, SX.contR, SX.contD, SX.sxStep, SX.stepPure, SX.stepNew, SX.stepStore, SX.stepKeep, SX.guardIx, SX.evOp, SX.opd, SX.opds, SX.optOpd, SX.look, SX.putS, SX.gobs, SX.AllP, SX.leave, SX.lookC, SX.lookB, SX.lookT, SX.lookN, SX.findK, SX.evBuiltin, SX.ints, SX.foldI, SX.evBin, SX.evInt, SX.evStr, SX.evEq, SX.arith, SX.evLoad, SX.shapeUp, SX.evFieldAddr, SX.evField, SX.evIndexAddr, SX.evIndex, SX.evFill, SX.evBuild, SX.szs, SX.cellsV, SX.evNew, SX.evStore, SX.spliceL, SX.SV.cells, SX.evConv, SX.evSlice, SX.bnd, SX.evNil, SX.evUn, SX.evPick, SX.pickOpd, SX.popTo, SX.cnd, SX.env0, SX.TD.isAgg, SX.TD.isIface, SX.tails, SX.NotAgg, SX.evLookup, SX.evConvH, SX.evPtrEq, SX.isCells, Go.Value.cells, cfg6]
  refine ⟨by (unfold SX.Ob; first | trivial | omega | ((try simp only [SX.inK]); (try simp [SX.den, SX.IsU8, *]); (try omega))), ?_⟩
  intro a17 w17 hr17' _
  obtain ⟨s_17, hs17⟩ : ∃ x, x = s_ := ⟨_, rfl⟩
  subst hs17
  have hr17 := h16.unbase hr17'
  have hb17 : Below w16.heap.size w16 w17 := by simpa [mutB] using hr17'.keeps.toBelow
  have hl17 := hT16.lt
  have hT17 := hT16.keep hb17
  have hu17 := update_ok w17 b _ hT17 (by unfold inK; omega) (~~~ rA) _ nb gb (BV.at_ hB hr17.keeps b hwb) (by omega)
  refine post_call 13 [.ptr 0 b 0, .v (.int .u32 (rv (~~~ rA))), .v (.slice ab nb cb)] hr17 (wanted_zero (hr17.env.same rfl rfl rfl rfl) rfl (by simp)) rfl (callable 13 Try.func13) hu17 ?_
  rintro e w18 ⟨he18, hk18, hT18⟩
  have he18' : e = .returned (.int .u32 (rv (rW))) := by rw [he18, BitVec.not_not]; rw [hrW]
  subst he18'
  clear he18
  refine ⟨_, rfl, ?_⟩
  have h18 := hr17.retK hk18 hM 39 (.v (.int .u32 (rv (rW)))) rfl [] trivial (by simp) rfl
  refine seg cfg6_ok mixed PanicFree.body 1000 [] [(23, true), (32, true), (43, true), (59, true)] h18.rebase (by first | trivial | exact HpRep.nil | assumption) (by kernel_rfl) fun s_ hs_ => ?_
  simp (maxSteps := 10000000) [SX.vc, SX.stop, SX.contS, SX.contB, SX.contW, SX.contR, SX.contD, SX.sxStep, SX.stepPure, SX.stepNew, SX.stepStore, SX.stepKeep, SX.guardIx, SX.evOp, SX.opd, SX.opds, SX.optOpd, SX.look, SX.putS, SX.gobs, SX.AllP, SX.leave, SX.lookC, SX.lookB, SX.lookT, SX.lookN, SX.findK, SX.evBuiltin, SX.ints, SX.foldI, SX.evBin, SX.evInt, SX.evStr, SX.evEq, SX.arith, SX.evLoad, SX.shapeUp, SX.evFieldAddr, SX.evField, SX.evIndexAddr, SX.evIndex, SX.evFill, SX.evBuild, SX.szs, SX.cellsV, SX.evNew, SX.evStore, SX.spliceL, SX.SV.cells, SX.evConv, SX.evSlice, SX.bnd, SX.evNil, SX.evUn, SX.evPick, SX.pickOpd, SX.popTo, SX.cnd, SX.env0, SX.TD.isAgg, SX.TD.isIface, SX.tails, SX.NotAgg, SX.evLookup, SX.evConvH, SX.evPtrEq, SX.isCells, Go.Value.cells, cfg6]
  refine ⟨by (unfold SX.Ob; first | trivial | omega | ((try simp only [SX.inK]); (try simp [SX.den, SX.IsU8, *]); (try omega))), ?_⟩
  intro a19 w19 hr19' _
  obtain ⟨s_19, hs19⟩ : ∃ x, x = s_ := ⟨_, rfl⟩
  subst hs19
  have hr19 := h18.unbase hr19'
  have hb19 : Below w18.heap.size w18 w19 := by simpa [mutB] using hr19'.keeps.toBelow
  have hl19 := hT18.lt
  have hT19 := hT18.keep hb19
  have hL19 : LV b w19 (.slice (some ⟨s_19, 0, none⟩) 1 1) 1 (fun _ => na) (fun _ => ga) := LV.one (Nat.le_refl _) (by omega) hr19.all.1.1 rfl (BV.at_ hA hr19.keeps b hwb) (by omega)
  refine post_call 11 [.ptr 0 b 0, .sl 0 s_19 0 0 1 1 1] hr19 (wanted_zero (hr19.env.same rfl rfl rfl rfl) rfl (by simp)) rfl (callable 11 Try.func11) (sum_ok w19 b _ hT19 (by unfold inK; omega) _ 1 _ _ hL19 (by omega)) ?_
  rintro e w20 ⟨he20, hk20, hT20⟩
  have he20' : e = .returned (.int .u32 (rv (~~~ rA))) := by rw [he20]; rw [hrA]; rfl
  subst he20'
  clear he20
  refine ⟨_, rfl, ?_⟩
  have h20 := hr19.retK hk20 hM 48 (.v (.int .u32 (rv (~~~ rA)))) rfl [] trivial (by simp) rfl
  refine seg cfg6_ok mixed PanicFree.body 1000 [] [(23, true), (32, true), (43, true), (59, true)] h20.rebase (by first | trivial | exact HpRep.nil | assumption) (by kernel_rfl) fun s_ hs_ => ?_
  simp (maxSteps := 10000000) [SX.vc, SX.stop, SX.contS, SX.contB, SX.contW, SX.contR, SX.contD, SX.sxStep, SX.stepPure, SX.stepNew, SX.stepStore, SX.stepKeep, SX.guardIx, SX.evOp, SX.opd, SX.opds, SX.optOpd, SX.look, SX.putS, SX.gobs, SX.AllP, SX.leave, SX.lookC, SX.lookB, SX.lookT, SX.lookN, SX.findK, SX.evBuiltin, SX.ints, SX.foldI, SX.evBin, SX.evInt, SX.evStr, SX.evEq, SX.arith, SX.evLoad, SX.shapeUp, SX.evFieldAddr, SX.evField, SX.evIndexAddr, SX.evIndex, SX.evFill, SX.evBuild, SX.szs, SX.cellsV, SX.evNew, SX.evStore, SX.spliceL, SX.SV.cells, SX.evConv, SX.evSlice, SX.bnd, SX.evNil, SX.evUn, SX.evPick, SX.pickOpd, SX.popTo, SX.cnd, SX.env0, SX.TD.isAgg, SX.TD.isIface, SX.tails, SX.NotAgg, SX.evLookup, SX.evConvH, SX.evPtrEq, SX.isCells, Go.Value.cells, cfg6]
  refine ⟨by (unfold SX.Ob; first | trivial | omega | ((try simp only [SX.inK]); (try simp [SX.den, SX.IsU8, *]); (try omega))), ?_⟩
  intro a21 w21 hr21' _
  obtain ⟨s_21, hs21⟩ : ∃ x, x = s_ := ⟨_, rfl⟩
  subst hs21
  have hr21 := h20.unbase hr21'
  have hb21 : Below w20.heap.size w20 w21 := by simpa [mutB] using hr21'.keeps.toBelow
  have hl21 := hT20.lt
  have hT21 := hT20.keep hb21
  have hL21 : LV b w21 (.slice (some ⟨s_21, 0, none⟩) 1 1) 1 (fun _ => nb) (fun _ => gb) := LV.one (Nat.le_refl _) (by omega) hr21.all.1.1 rfl (BV.at_ hB hr21.keeps b hwb) (by omega)
  refine post_call 11 [.ptr 0 b 0, .sl 0 s_21 0 0 1 1 1] hr21 (wanted_zero (hr21.env.same rfl rfl rfl rfl) rfl (by simp)) rfl (callable 11 Try.func11) (sum_ok w21 b _ hT21 (by unfold inK; omega) _ 1 _ _ hL21 (by omega)) ?_
  rintro e w22 ⟨he22, hk22, hT22⟩
  have he22' : e = .returned (.int .u32 (rv (~~~ go ones gb nb))) := by rw [he22]; rfl
  subst he22'
  clear he22
  refine ⟨_, rfl, ?_⟩
  have h22 := hr21.retK hk22 hM 52 (.v (.int .u32 (rv (~~~ go ones gb nb)))) rfl [] trivial (by simp) rfl
  refine seg cfg6_ok mixed PanicFree.body 1000 [] [(23, true), (32, true), (43, true), (59, true)] h22.rebase (by first | trivial | exact HpRep.nil | assumption) (by kernel_rfl) fun s_ hs_ => ?_
  simp (maxSteps := 10000000) [SX.vc, SX.stop, SX.contS, SX.contB, SX.contW, SX.contR, SX.contD, SX.sxStep, SX.stepPure, SX.stepNew, SX.stepStore, SX.stepKeep, SX.guardIx, SX.evOp, SX.opd, SX.opds, SX.optOpd, SX.look, SX.putS, SX.gobs, SX.AllP, SX.leave, SX.lookC, SX.lookB, SX.lookT, SX.lookN, SX.findK, SX.evBuiltin, SX.ints, SX.foldI, SX.evBin, SX.evInt, SX.evStr, SX.evEq, SX.arith, SX.evLoad, SX.shapeUp, SX.evFieldAddr, SX.evField, SX.evIndexAddr, SX.evIndex, SX.evFill, SX.evBuild, SX.szs, SX.cellsV, SX.evNew, SX.evStore, SX.spliceL, SX.SV.cells, SX.evConv, SX.evSlice, SX.bnd, SX.evNil, SX.evUn, SX.evPick, SX.pickOpd, SX.popTo, SX.cnd, SX.env0, SX.TD.isAgg, SX.TD.isIface, SX.tails, SX.NotAgg, SX.evLookup, SX.evConvH, SX.evPtrEq, SX.isCells, Go.Value.cells, cfg6]
  refine ⟨by (unfold SX.Ob; first | trivial | omega | ((try simp only [SX.inK]); (try simp [SX.den, SX.IsU8, *]); (try omega))), ?_⟩
  intro a23 w23 hr23' _
  obtain ⟨s_23, hs23⟩ : ∃ x, x = s_ := ⟨_, rfl⟩
  subst hs23
  have hr23 := h22.unbase hr23'
  have hb23 : Below w22.heap.size w22 w23 := by simpa [mutB] using hr23'.keeps.toBelow
  have hl23 := hT22.lt
  have hT23 := hT22.keep hb23
  have hj23 := join_ok w23 b _ hT23 (by unfold inK; omega) (~~~ rA) (~~~ go ones gb nb) nb (by omega)
  have hjl : fN (8 * nb) (~~~ rA) ^^^ (~~~ go ones gb nb) = rW := by rw [hrW, hrA]; exact join_law ga gb na nb
  rw [hjl] at hj23
  refine post_call 15 [.ptr 0 b 0, .v (.int .u32 (rv (~~~ rA))), .v (.int .u32 (rv (~~~ go ones gb nb))), .v (.int .i64 nb)] hr23 (wanted_zero (hr23.env.same rfl rfl rfl rfl) rfl (by simp)) rfl (callable 15 Try.func15) hj23 ?_
  rintro e w24 ⟨rfl, hk24, hT24⟩
  refine ⟨_, rfl, ?_⟩
  have h24 := hr23.retK hk24 hM 55 (.v (.int .u32 (rv rW))) rfl [] trivial (by simp) rfl
  refine seg cfg6_ok mixed PanicFree.body 1000 [] [(23, true), (32, true), (43, true), (59, true)] h24.rebase (by first | trivial | exact HpRep.nil | assumption) (by kernel_rfl) fun s_ hs_ => ?_
  simp (maxSteps := 10000000) [SX.vc, SX.stop, SX.contS, SX.contB, SX.contW, SX.contR, SX.contD, SX.sxStep, SX.stepPure, SX.stepNew, SX.stepStore, SX.stepKeep, SX.guardIx, SX.evOp, SX.opd, SX.opds, SX.optOpd, SX.look, SX.putS, SX.gobs, SX.AllP, SX.leave, SX.lookC, SX.lookB, SX.lookT, SX.lookN, SX.findK, SX.evBuiltin, SX.ints, SX.foldI, SX.evBin, SX.evInt, SX.evStr, SX.evEq, SX.arith, SX.evLoad, SX.shapeUp, SX.evFieldAddr, SX.evField, SX.evIndexAddr, SX.evIndex, SX.evFill, SX.evBuild, SX.szs, SX.cellsV, SX.evNew, SX.evStore, SX.spliceL, SX.SV.cells, SX.evConv, SX.evSlice, SX.bnd, SX.evNil, SX.evUn, SX.evPick, SX.pickOpd, SX.popTo, SX.cnd, SX.env0, SX.TD.isAgg, SX.TD.isIface, SX.tails, SX.NotAgg, SX.evLookup, SX.evConvH, SX.evPtrEq, SX.isCells, Go.Value.cells, cfg6]
  refine ⟨by (unfold SX.Ob; first | trivial | omega | ((try simp only [SX.inK]); (try simp [SX.den, SX.IsU8, *]); (try omega))), ?_⟩
  intro a25 w25 hr25' _
  obtain ⟨s_25, hs25⟩ : ∃ x, x = s_ := ⟨_, rfl⟩
  subst hs25
  have hr25 := h24.unbase hr25'
  have hb25 : Below w24.heap.size w24 w25 := by simpa [mutB] using hr25'.keeps.toBelow
  have hl25 := hT24.lt
  have hT25 := hT24.keep hb25
  have hL25 : LV b w25 (.slice (some ⟨s_25, 0, none⟩) 1 1) 1 (fun _ => na) (fun _ => ga) := LV.one (Nat.le_refl _) (by omega) hr25.all.1.1 rfl (BV.at_ hA hr25.keeps b hwb) (by omega)
  refine post_call 11 [.ptr 0 b 0, .sl 0 s_25 0 0 1 1 1] hr25 (wanted_zero (hr25.env.same rfl rfl rfl rfl) rfl (by simp)) rfl (callable 11 Try.func11) (sum_ok w25 b _ hT25 (by unfold inK; omega) _ 1 _ _ hL25 (by omega)) ?_
  rintro e w26 ⟨he26, hk26, hT26⟩
  have he26' : e = .returned (.int .u32 (rv (~~~ rA))) := by rw [he26]; rw [hrA]; rfl
  subst he26'
  clear he26
  refine ⟨_, rfl, ?_⟩
  have h26 := hr25.retK hk26 hM 64 (.v (.int .u32 (rv (~~~ rA)))) rfl [] trivial (by simp) rfl
  refine seg cfg6_ok mixed PanicFree.body 1000 [] [(23, true), (32, true), (43, true), (59, true)] h26.rebase (by first | trivial | exact HpRep.nil | assumption) (by kernel_rfl) fun s_ hs_ => ?_
  simp (maxSteps := 10000000) [SX.vc, SX.stop, SX.contS, SX.contB, SX.contW, SX.contR, SX.contD, SX.sxStep, SX.stepPure, SX.stepNew, SX.stepStore, SX.stepKeep, SX.guardIx, SX.evOp, SX.opd, SX.opds, SX.optOpd, SX.look, SX.putS, SX.gobs, SX.AllP, SX.leave, SX.lookC, SX.lookB, SX.lookT, SX.lookN, SX.findK, SX.evBuiltin, SX.ints, SX.foldI, SX.evBin, SX.evInt, SX.evStr, SX.evEq, SX.arith, SX.evLoad, SX.shapeUp, SX.evFieldAddr, SX.evField, SX.evIndexAddr, SX.evIndex, SX.evFill, SX.evBuild, SX.szs, SX.cellsV, SX.evNew, SX.evStore, SX.spliceL, SX.SV.cells, SX.evConv, SX.evSlice, SX.bnd, SX.evNil, SX.evUn, SX.evPick, SX.pickOpd, SX.popTo, SX.cnd, SX.env0, SX.TD.isAgg, SX.TD.isIface, SX.tails, SX.NotAgg, SX.evLookup, SX.evConvH, SX.evPtrEq, SX.isCells, Go.Value.cells, cfg6]
  refine ⟨by (unfold SX.Ob; first | trivial | omega | ((try simp only [SX.inK]); (try simp [SX.den, SX.IsU8, *]); (try omega))), ?_⟩
  intro a27 w27 hr27' _
  obtain ⟨s_27, hs27⟩ : ∃ x, x = s_ := ⟨_, rfl⟩
  subst hs27
  have hr27 := h26.unbase hr27'
  have hb27 : Below w26.heap.size w26 w27 := by simpa [mutB] using hr27'.keeps.toBelow
  have hl27 := hT26.lt
  have hT27 := hT26.keep hb27
  have hu27 := update_ok w27 b _ hT27 (by unfold inK; omega) (~~~ rA) (.slice none 0 0) 0 ga (.inl ⟨rfl, _, _, rfl⟩) (by omega)
  refine post_call 13 [.ptr 0 b 0, .v (.int .u32 (rv (~~~ rA))), .v (.slice none 0 0)] hr27 (wanted_zero (hr27.env.same rfl rfl rfl rfl) rfl (by simp)) rfl (callable 13 Try.func13) hu27 ?_
  rintro e w28 ⟨he28, hk28, hT28⟩
  have he28' : e = .returned (.int .u32 (rv (~~~ rA))) := by rw [he28, BitVec.not_not]; rfl
  subst he28'
  clear he28
  refine ⟨_, rfl, ?_⟩
  have h28 := hr27.retK hk28 hM 65 (.v (.int .u32 (rv (~~~ rA)))) rfl [] trivial (by simp) rfl
  refine seg cfg6_ok mixed PanicFree.body 1000 [] [(23, true), (32, true), (43, true), (59, true)] h28.rebase (by first | trivial | exact HpRep.nil | assumption) (by kernel_rfl) fun s_ hs_ => ?_
  simp (maxSteps := 10000000) [SX.vc, SX.stop, SX.contS, SX.contB, SX.contW, SX.contR, SX.contD, SX.sxStep, SX.stepPure, SX.stepNew, SX.stepStore, SX.stepKeep, SX.guardIx, SX.evOp, SX.opd, SX.opds, SX.optOpd, SX.look, SX.putS, SX.gobs, SX.AllP, SX.leave, SX.lookC, SX.lookB, SX.lookT, SX.lookN, SX.findK, SX.evBuiltin, SX.ints, SX.foldI, SX.evBin, SX.evInt, SX.evStr, SX.evEq, SX.arith, SX.evLoad, SX.shapeUp, SX.evFieldAddr, SX.evField, SX.evIndexAddr, SX.evIndex, SX.evFill, SX.evBuild, SX.szs, SX.cellsV, SX.evNew, SX.evStore, SX.spliceL, SX.SV.cells, SX.evConv, SX.evSlice, SX.bnd, SX.evNil, SX.evUn, SX.evPick, SX.pickOpd, SX.popTo, SX.cnd, SX.env0, SX.TD.isAgg, SX.TD.isIface, SX.tails, SX.NotAgg, SX.evLookup, SX.evConvH, SX.evPtrEq, SX.isCells, Go.Value.cells, cfg6]
  refine ⟨by (unfold SX.Ob; first | trivial | omega | ((try simp only [SX.inK]); (try simp [SX.den, SX.IsU8, *]); (try omega))), ?_⟩
  intro a29 w29 hr29' _
  obtain ⟨s_29, hs29⟩ : ∃ x, x = s_ := ⟨_, rfl⟩
  subst hs29
  have hr29 := h28.unbase hr29'
  have hb29 : Below w28.heap.size w28 w29 := by simpa [mutB] using hr29'.keeps.toBelow
  have hl29 := hT28.lt
  have hT29 := hT28.keep hb29
  have hL29 : LV b w29 (.slice (some ⟨s_29, 0, none⟩) 1 1) 1 (fun _ => na) (fun _ => ga) := LV.one (Nat.le_refl _) (by omega) hr29.all.1.1 rfl (BV.at_ hA hr29.keeps b hwb) (by omega)
  refine post_call 11 [.ptr 0 b 0, .sl 0 s_29 0 0 1 1 1] hr29 (wanted_zero (hr29.env.same rfl rfl rfl rfl) rfl (by simp)) rfl (callable 11 Try.func11) (sum_ok w29 b _ hT29 (by unfold inK; omega) _ 1 _ _ hL29 (by omega)) ?_
  rintro e w30 ⟨he30, hk30, hT30⟩
  have he30' : e = .returned (.int .u32 (rv (~~~ rA))) := by rw [he30]; rw [hrA]; rfl
  subst he30'
  clear he30
  refine ⟨_, rfl, ?_⟩
  have h30 := hr29.retK hk30 hM 69 (.v (.int .u32 (rv (~~~ rA)))) rfl [] trivial (by simp) rfl
  refine seg cfg6_ok mixed PanicFree.body 1000 [] [(23, true), (32, true), (43, true), (59, true)] h30 (by first | trivial | exact HpRep.nil | assumption) (by kernel_rfl) fun s_ hs_ => ?_
  simp (maxSteps := 10000000) [SX.vc, SX.stop, SX.contS, SX.contB, SX.contW, SX.contR, SX.contD, SX.sxStep, SX.stepPure, SX.stepNew, SX.stepStore, SX.stepKeep, SX.guardIx, SX.evOp, SX.opd, SX.opds, SX.optOpd, SX.look, SX.putS, SX.gobs, SX.AllP, SX.leave, SX.lookC, SX.lookB, SX.lookT, SX.lookN, SX.findK, SX.evBuiltin, SX.ints, SX.foldI, SX.evBin, SX.evInt, SX.evStr, SX.evEq, SX.arith, SX.evLoad, SX.shapeUp, SX.evFieldAddr, SX.evField, SX.evIndexAddr, SX.evIndex, SX.evFill, SX.evBuild, SX.szs, SX.cellsV, SX.evNew, SX.evStore, SX.spliceL, SX.SV.cells, SX.evConv, SX.evSlice, SX.bnd, SX.evNil, SX.evUn, SX.evPick, SX.pickOpd, SX.popTo, SX.cnd, SX.env0, SX.TD.isAgg, SX.TD.isIface, SX.tails, SX.NotAgg, SX.evLookup, SX.evConvH, SX.evPtrEq, SX.isCells, Go.Value.cells, cfg6]
  refine ⟨by (unfold SX.Ob; first | trivial | omega | ((try simp only [SX.inK]); (try simp [SX.den, SX.IsU8, *]); (try omega))), ?_⟩
  intro a31 w31 hr31 _
  exact post_retn (end1 hr31 rfl rfl ⟨by simp [den], hr31.keeps.toBelow⟩).1
end Go.Proofs
