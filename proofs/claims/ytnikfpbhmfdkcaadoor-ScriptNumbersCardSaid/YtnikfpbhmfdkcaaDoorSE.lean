/- Script: lines that are cut, words that are split, digits. -/
import Derived.Test.YtnikfpbhmfdkcaaDoorSD
import Derived.Lib.IndexBytes
namespace Go.Proofs
set_option linter.unusedVariables false
set_option linter.unusedSimpArgs false
set_option linter.unusedSectionVars false
open Go Go.SX Go.RowKit Go.Script Go.Shelf

theorem hi9 : (Tryd.prog.info? 9).map (fun i => (i.zero, i.size, i.bytes)) = some (some (.string ByteArray.empty), 1, 16) := by kernel_rfl

set_option maxHeartbeats 4000000 in
set_option maxRecDepth 100000 in
theorem genSplit_okK (s : ByteArray) (w : World) (hs : s.size < 4294967281) :
    Calls Tryd.prog 38 #[.string s, .string ⟨#[32]⟩, .int .i64 0, .int .i64 (-1)] w fun e w' =>
      e = .returned (.slice (some ⟨w.heap.size, 0, none⟩) (Lib.countB s ⟨#[32]⟩ + 1) (Lib.countB s ⟨#[32]⟩ + 1)) ∧ w' = w.alloc (.cells ((Lib.splitB ⟨#[32]⟩ 0 (Lib.countB s ⟨#[32]⟩) s).map Value.string).toArray 9) := by
  have hle := Lib.countB_le ⟨#[32]⟩ (by decide) s.size s (Nat.le_refl _)
  have hlen := Lib.splitB_all ⟨#[32]⟩ (by decide) 0 _ s rfl
  have hI : ∀ (x : ByteArray) (c : Array Value), x.size ≤ s.size → Calls Tryd.prog 43 #[.string x, .string ⟨#[32]⟩] (w.alloc (.cells c 9)) fun e w' => e = .returned (.int .i64 (Lib.indexB x ⟨#[32]⟩)) ∧ w' = w.alloc (.cells c 9) := fun x c _ =>
    (Any.strings_Index_one { Tryd.genSplitL with } x 32 (w.alloc (.cells c 9))).mono fun e w' ⟨he, hw⟩ => ⟨by
      rw [he]
      show _ = Ending.returned (Value.int .i64 (Lib.index x.data.toList [32]))
      rw [Lib.index_one], hw⟩
  have hC : Calls Tryd.prog 42 #[.string s, .string ⟨#[32]⟩] w fun e w' => e = .returned (.int .i64 (Lib.countB s ⟨#[32]⟩)) ∧ w' = w :=
    (Any.strings_Count_one { Tryd.genSplitL with } s 32 w).mono fun e w' ⟨he, hw⟩ => ⟨by
      rw [he]
      show _ = Ending.returned (Value.int .i64 ((Lib.count s.data.toList [32] : Nat) : Int))
      rw [Lib.count_one]
      rfl, hw⟩
  have c := Any.strings_genSplit_core Tryd.genSplitL hi9 s ⟨#[32]⟩ 0 (-1) (Lib.countB s ⟨#[32]⟩ + 1) w hs (by decide) (Nat.zero_le _) hI hC (by decide) (by decide) (by rw [if_pos (by decide)]; omega)
  rw [Nat.add_sub_cancel, hlen] at c
  have e2 : Lib.cellsOf (Lib.splitB ⟨#[32]⟩ 0 (Lib.countB s ⟨#[32]⟩) s) (Lib.countB s ⟨#[32]⟩ + 1) = ((Lib.splitB ⟨#[32]⟩ 0 (Lib.countB s ⟨#[32]⟩) s).map Value.string).toArray := by rw [← hlen]; exact Lib.cellsOf_full _
  rw [e2] at c
  exact c

theorem splitB_words (l : L8) : Lib.splitB ⟨#[32]⟩ 0 (Lib.countB (B l) ⟨#[32]⟩) (B l) = (words l).map B := by
  have h1 := Lib.splitB_data ⟨#[32]⟩ 0 (Lib.countB (B l) ⟨#[32]⟩) (B l)
  rw [B_data] at h1
  have h2 : Lib.countB (B l) ⟨#[32]⟩ = Lib.count l [32] := by
    show Lib.count (B l).data.toList [32] = _
    rw [B_data]
  rw [h2] at h1 ⊢
  have h3 := splitK_words l
  change List.map (fun x : ByteArray => x.data.toList) _ = Lib.splitK [32] 0 (Lib.count l [32]) l at h1
  rw [h3] at h1
  rw [← h1, List.map_map]
  conv => lhs; rw [← List.map_id (Lib.splitB ⟨#[32]⟩ 0 (Lib.count l [32]) (B l))]
  exact List.map_congr_left fun x _ => (B_of x).symm

set_option maxRecDepth 100000 in
set_option maxHeartbeats 4000000 in
/-- Words. -/
theorem words_ok (w : World) (l : L8) (hl : l.length ≤ 1000000) : Calls Tryd.prog 24 (denL [.v (.string (B l))]).toArray w fun e w' => (∃ v, e = .returned v ∧ RdW (fun x => w.heap.size ≤ x) w' v (words l)) ∧ Below w.heap.size w w' := by
  show Calls Tryd.prog 24 #[.string (B l)] w _
  have c := fun W => genSplit_okK (B l) W (by rw [B_size]; omega)
  have h31 : ∀ W, Calls Tryd.prog 31 #[.string (B l), .string ⟨#[32]⟩] W fun e w' =>
      e = .returned (.slice (some ⟨W.heap.size, 0, none⟩) (Lib.countB (B l) ⟨#[32]⟩ + 1) (Lib.countB (B l) ⟨#[32]⟩ + 1)) ∧ w' = W.alloc (.cells ((Lib.splitB ⟨#[32]⟩ 0 (Lib.countB (B l) ⟨#[32]⟩) (B l)).map Value.string).toArray 9) := fun W => by
    go_enter Tryd.func31, Tryd.ntmps31
    go_wp2_with (go_at_call 38; refine (c _).mono ?_; rintro e w' ⟨rfl, rfl⟩)
    go_ret
    exact ⟨rfl, rfl⟩
  have hlen : Lib.countB (B l) ⟨#[32]⟩ + 1 = (words l).length := by
    rw [← Lib.splitB_all ⟨#[32]⟩ (by decide) 0 _ (B l) rfl, splitB_words, List.length_map]
  rw [hlen, splitB_words] at h31
  clear c hlen
  go_enter Tryd.func24, Tryd.ntmps24
  go_wp2_with (go_at_call 31; refine (h31 _).mono ?_; rintro e w' ⟨rfl, rfl⟩)
  go_ret
  refine ⟨⟨_, rfl, .inr ⟨List.length_pos_iff.2 (words_ne l), w.heap.size, 0, (words l).length, 9, (0, 0), Nat.le_refl _, rfl, rep_lits _ (words l) (heap_alloc_new w _) (by simp), Nat.le_refl _⟩⟩, (Below.refl _ w).alloc (Nat.le_refl _) _⟩

theorem cutL_miss : ∀ {l : L8}, Lib.indexByte l 10 = -1 → cutL l = (l, [], false)
  | [], _ => rfl
  | c :: l, h => by
    have hc : c ≠ 10 := fun e => Lib.indexByte_none h 0 (by simp [e])
    have h2 : Lib.indexByte l 10 = -1 := by
      unfold Lib.indexByte at h
      rw [if_neg (by simpa using hc)] at h
      split at h
      · rename_i h3; simpa using h3
      · have := Lib.indexByte_ge l 10; rename_i h3; simp at h3; omega
    rw [cutL, if_neg hc, cutL_miss h2]
theorem cutL_hit : ∀ {l : L8} {i : Nat}, Lib.indexByte l 10 = i → cutL l = (l.take i, l.drop (i + 1), true)
  | [], i, h => by simp [Lib.indexByte] at h
  | c :: l, i, h => by
    by_cases hc : c = 10
    · subst hc
      have : Lib.indexByte ((10 : UInt8) :: l) 10 = 0 := by simp [Lib.indexByte]
      rw [this] at h
      obtain rfl : i = 0 := by omega
      simp [cutL]
    · unfold Lib.indexByte at h
      rw [if_neg (by simpa using hc)] at h
      split at h
      · omega
      · have hge := Lib.indexByte_ge l 10
        rename_i h3
        simp at h3
        obtain ⟨j, rfl⟩ : ∃ j, i = j + 1 := ⟨i - 1, by omega⟩
        rw [cutL, if_neg hc, cutL_hit (l := l) (i := j) (by omega)]
        simp

theorem B_extract (l : L8) (i j : Nat) : (B l).extract i j = B ((l.drop i).take (j - i)) := by
  rw [← B_of ((B l).extract i j), Lib.extract_data, B_data]
theorem size1 : (⟨#[10]⟩ : ByteArray).size = 1 := rfl
theorem slIndex_ok (l : L8) (w : World) : Calls Tryd.prog 30 (denL [.v (.string (B l)), .v (.string ⟨#[10]⟩)]).toArray w fun e w' => e = .returned (den (.v (.int .i64 (Lib.indexByte l 10)))) ∧ Below w.heap.size w w' :=
  (Any.stringslite_Index_one Tryd.slIndexL (B l) 10 w).mono fun e w' ⟨he, hw⟩ => ⟨by rw [he, B_data]; rfl, by rw [hw]; exact Below.refl _ _⟩

set_option maxRecDepth 100000 in
set_option maxHeartbeats 4000000 in
/-- Cut. -/
theorem cut23_ok (w : World) (l : L8) (hl : l.length ≤ 1000000) : Calls Tryd.prog 23 (denL [.v (.string (B l)), .v (.string ⟨#[10]⟩)]).toArray w fun e w' => e = .returned (den (.tu [.v (.string (B (cutL l).1)), .v (.string (B (cutL l).2.1)), .v (.bool (cutL l).2.2)])) ∧ Below w.heap.size w w' := by
  have hge := Lib.indexByte_ge l 10
  have hix := slIndex_ok l
  obtain ⟨q, hq⟩ : ∃ q, Lib.indexByte l 10 = q := ⟨_, rfl⟩
  rw [hq] at hix hge
  refine enter (F := frame0 w) Tryd.func23 rfl [.v (.string (B l)), .v (.string ⟨#[10]⟩)] [] (by simp [Tryd.f23]) trivial (keeps0 w) fun a hr => ?_
  refine seg cfg23_ok mixed PanicFree.body 1000 [] [] hr (by first | trivial | exact HpRep.nil | assumption) (by kernel_rfl) fun s_ hs_ => ?_
  simp (maxSteps := 10000000) [SX.vc, SX.stop, SX.contS, SX.contB, SX.contW, SX.contR, SX.contD, SX.sxStep, SX.stepPure, SX.stepNew, SX.stepStore, SX.stepKeep, SX.guardIx, SX.evOp, SX.opd, SX.opds, SX.optOpd, SX.look, SX.putS, SX.gobs, SX.AllP, SX.leave, SX.lookC, SX.lookB, SX.lookT, SX.lookN, SX.findK, SX.evBuiltin, SX.ints, SX.foldI, SX.evBin, SX.evInt, SX.evStr, SX.evEq, SX.arith, SX.evLoad, SX.shapeUp, SX.evFieldAddr, SX.evField, SX.evIndexAddr, SX.evIndex, SX.evFill, SX.evBuild, SX.szs, SX.cellsV, SX.evNew, SX.evStore, SX.spliceL, SX.SV.cells, SX.evConv, SX.evSlice, SX.bnd, SX.evNil, SX.evUn, SX.evPick, SX.pickOpd, SX.popTo, SX.cnd, SX.env0, SX.TD.isAgg, SX.TD.isIface, SX.tails, SX.NotAgg, SX.evLookup, SX.evConvH, SX.evPtrEq, SX.isCells, SX.thaw, SX.frz, SX.fixB, SX.rootIx, SX.Froz, SX.frzStep, SX.fork, Go.Value.cells, Go.undef, cfg23, Tryd.f23]
  refine ⟨by (unfold SX.Ob; first | trivial | omega | ((try simp only [SX.inK]); (try simp [SX.den, SX.IsU8, SX.AllP, *]); (try omega))), ?_⟩
  intro a1 w1 hr1 _
  refine post_call 30 [.v (.string (B l)), .v (.string ⟨#[10]⟩)] hr1 (by first | exact wanted_none rfl | exact wanted_zero (hr1.env.same rfl rfl rfl rfl) rfl (by simp) | exact wanted_zero (hr1.env.same rfl rfl rfl rfl) rfl (by simp [*])) rfl (callable 30 Tryd.func30) (hix w1) ?_
  rintro e2 w2 ⟨rfl, hb2⟩
  refine ⟨_, rfl, ?_⟩
  have h2 := hr1.ret hb2 10 (.v (.int .i64 q)) rfl _ (hr1.all.below hb2) (by simp) rfl
  by_cases h0 : q = -1
  · subst h0
    refine seg cfg23_ok mixed PanicFree.body 1000 [false] [] h2 (by first | trivial | exact HpRep.nil | assumption) (by kernel_rfl) fun s_ hs_ => ?_
    simp (maxSteps := 10000000) [SX.vc, SX.stop, SX.contS, SX.contB, SX.contW, SX.contR, SX.contD, SX.sxStep, SX.stepPure, SX.stepNew, SX.stepStore, SX.stepKeep, SX.guardIx, SX.evOp, SX.opd, SX.opds, SX.optOpd, SX.look, SX.putS, SX.gobs, SX.AllP, SX.leave, SX.lookC, SX.lookB, SX.lookT, SX.lookN, SX.findK, SX.evBuiltin, SX.ints, SX.foldI, SX.evBin, SX.evInt, SX.evStr, SX.evEq, SX.arith, SX.evLoad, SX.shapeUp, SX.evFieldAddr, SX.evField, SX.evIndexAddr, SX.evIndex, SX.evFill, SX.evBuild, SX.szs, SX.cellsV, SX.evNew, SX.evStore, SX.spliceL, SX.SV.cells, SX.evConv, SX.evSlice, SX.bnd, SX.evNil, SX.evUn, SX.evPick, SX.pickOpd, SX.popTo, SX.cnd, SX.env0, SX.TD.isAgg, SX.TD.isIface, SX.tails, SX.NotAgg, SX.evLookup, SX.evConvH, SX.evPtrEq, SX.isCells, SX.thaw, SX.frz, SX.fixB, SX.rootIx, SX.Froz, SX.frzStep, SX.fork, Go.Value.cells, Go.undef, cfg23]
    refine ⟨by (unfold SX.Ob; first | trivial | omega | ((try simp only [SX.inK]); (try simp [SX.den, SX.IsU8, SX.AllP, *]); (try omega))), ?_⟩
    intro a3 w3 hr3 _
    exact post_retn (end3 hr3 rfl rfl rfl rfl ⟨by rw [cutL_miss hq]; rfl, hr3.keeps.toBelow⟩).1
  · obtain ⟨i, rfl⟩ : ∃ i : Nat, q = i := ⟨q.toNat, by omega⟩
    have hi := (Lib.indexByte_some hq).1
    have hil : i < l.length := by
      rcases Nat.lt_or_ge i l.length with h | h
      · exact h
      · rw [List.getElem?_eq_none h] at hi; cases hi
    obtain ⟨ln, hln⟩ : ∃ ln, l.length = ln := ⟨_, rfl⟩
    rw [hln] at hil hl
    have hi0 : (0 : Int) ≤ (i : Int) := by omega
    have hii : (i : Int) ≤ (ln : Int) := by omega
    have hil2 : (i : Int) + 1 ≤ (ln : Int) := by omega
    refine seg cfg23_ok mixed PanicFree.body 1000 [true] [] h2 (by first | trivial | exact HpRep.nil | assumption) (by kernel_rfl) fun s_ hs_ => ?_
    simp (maxSteps := 10000000) [SX.vc, SX.stop, SX.contS, SX.contB, SX.contW, SX.contR, SX.contD, SX.sxStep, SX.stepPure, SX.stepNew, SX.stepStore, SX.stepKeep, SX.guardIx, SX.evOp, SX.opd, SX.opds, SX.optOpd, SX.look, SX.putS, SX.gobs, SX.AllP, SX.leave, SX.lookC, SX.lookB, SX.lookT, SX.lookN, SX.findK, SX.evBuiltin, SX.ints, SX.foldI, SX.evBin, SX.evInt, SX.evStr, SX.evEq, SX.arith, SX.evLoad, SX.shapeUp, SX.evFieldAddr, SX.evField, SX.evIndexAddr, SX.evIndex, SX.evFill, SX.evBuild, SX.szs, SX.cellsV, SX.evNew, SX.evStore, SX.spliceL, SX.SV.cells, SX.evConv, SX.evSlice, SX.bnd, SX.evNil, SX.evUn, SX.evPick, SX.pickOpd, SX.popTo, SX.cnd, SX.env0, SX.TD.isAgg, SX.TD.isIface, SX.tails, SX.NotAgg, SX.evLookup, SX.evConvH, SX.evPtrEq, SX.isCells, SX.thaw, SX.frz, SX.fixB, SX.rootIx, SX.Froz, SX.frzStep, SX.fork, Go.Value.cells, Go.undef, cfg23, hi0, hii, hil2, B_size, hln, size1]
    refine ⟨by (unfold SX.Ob; first | trivial | omega | ((try simp only [SX.inK]); (try simp [SX.den, SX.IsU8, SX.AllP, *]); (try omega))), ?_⟩
    intro a3 w3 hr3 _
    refine post_retn (end3 hr3 rfl rfl rfl rfl ⟨?_, hr3.keeps.toBelow⟩).1
    rw [cutL_hit hq]
    rw [B_extract, B_extract, List.drop_zero, Nat.sub_zero, List.take_of_length_le (l := l.drop (i + 1)) (by simp; omega)]
    rfl

set_option maxRecDepth 100000 in
set_option maxHeartbeats 4000000 in
theorem cut_ok (w : World) (l : L8) (hl : l.length ≤ 1000000) : Calls Tryd.prog 14 (denL [.v (.string (B l)), .v (.string ⟨#[10]⟩)]).toArray w fun e w' => e = .returned (den (.tu [.v (.string (B (cutL l).1)), .v (.string (B (cutL l).2.1)), .v (.bool (cutL l).2.2)])) ∧ Below w.heap.size w w' := by
  refine enter (F := frame0 w) Tryd.func14 rfl [.v (.string (B l)), .v (.string ⟨#[10]⟩)] [] (by simp [Tryd.f14]) trivial (keeps0 w) fun a hr => ?_
  refine seg cfg14_ok mixed PanicFree.body 1000 [] [] hr (by first | trivial | exact HpRep.nil | assumption) (by kernel_rfl) fun s_ hs_ => ?_
  simp (maxSteps := 10000000) [SX.vc, SX.stop, SX.contS, SX.contB, SX.contW, SX.contR, SX.contD, SX.sxStep, SX.stepPure, SX.stepNew, SX.stepStore, SX.stepKeep, SX.guardIx, SX.evOp, SX.opd, SX.opds, SX.optOpd, SX.look, SX.putS, SX.gobs, SX.AllP, SX.leave, SX.lookC, SX.lookB, SX.lookT, SX.lookN, SX.findK, SX.evBuiltin, SX.ints, SX.foldI, SX.evBin, SX.evInt, SX.evStr, SX.evEq, SX.arith, SX.evLoad, SX.shapeUp, SX.evFieldAddr, SX.evField, SX.evIndexAddr, SX.evIndex, SX.evFill, SX.evBuild, SX.szs, SX.cellsV, SX.evNew, SX.evStore, SX.spliceL, SX.SV.cells, SX.evConv, SX.evSlice, SX.bnd, SX.evNil, SX.evUn, SX.evPick, SX.pickOpd, SX.popTo, SX.cnd, SX.env0, SX.TD.isAgg, SX.TD.isIface, SX.tails, SX.NotAgg, SX.evLookup, SX.evConvH, SX.evPtrEq, SX.isCells, SX.thaw, SX.frz, SX.fixB, SX.rootIx, SX.Froz, SX.frzStep, SX.fork, Go.Value.cells, Go.undef, cfg14, Tryd.f14]
  refine ⟨by (unfold SX.Ob; first | trivial | omega | ((try simp only [SX.inK]); (try simp [SX.den, SX.IsU8, SX.AllP, *]); (try omega))), ?_⟩
  intro a1 w1 hr1 _
  refine post_call 23 [.v (.string (B l)), .v (.string ⟨#[10]⟩)] hr1 (by first | exact wanted_none rfl | exact wanted_zero (hr1.env.same rfl rfl rfl rfl) rfl (by simp) | exact wanted_zero (hr1.env.same rfl rfl rfl rfl) rfl (by simp [*])) rfl (callable 23 Tryd.func23) (cut23_ok w1 l hl) ?_
  rintro e2 w2 ⟨rfl, hb2⟩
  refine ⟨_, rfl, ?_⟩
  have h2 := hr1.ret hb2 9 (.tu [.v (.string (B (cutL l).1)), .v (.string (B (cutL l).2.1)), .v (.bool (cutL l).2.2)]) rfl _ (hr1.all.below hb2) (by simp) rfl
  refine seg cfg14_ok mixed PanicFree.body 1000 [] [] h2 (by first | trivial | exact HpRep.nil | assumption) (by kernel_rfl) fun s_ hs_ => ?_
  simp (maxSteps := 10000000) [SX.vc, SX.stop, SX.contS, SX.contB, SX.contW, SX.contR, SX.contD, SX.sxStep, SX.stepPure, SX.stepNew, SX.stepStore, SX.stepKeep, SX.guardIx, SX.evOp, SX.opd, SX.opds, SX.optOpd, SX.look, SX.putS, SX.gobs, SX.AllP, SX.leave, SX.lookC, SX.lookB, SX.lookT, SX.lookN, SX.findK, SX.evBuiltin, SX.ints, SX.foldI, SX.evBin, SX.evInt, SX.evStr, SX.evEq, SX.arith, SX.evLoad, SX.shapeUp, SX.evFieldAddr, SX.evField, SX.evIndexAddr, SX.evIndex, SX.evFill, SX.evBuild, SX.szs, SX.cellsV, SX.evNew, SX.evStore, SX.spliceL, SX.SV.cells, SX.evConv, SX.evSlice, SX.bnd, SX.evNil, SX.evUn, SX.evPick, SX.pickOpd, SX.popTo, SX.cnd, SX.env0, SX.TD.isAgg, SX.TD.isIface, SX.tails, SX.NotAgg, SX.evLookup, SX.evConvH, SX.evPtrEq, SX.isCells, SX.thaw, SX.frz, SX.fixB, SX.rootIx, SX.Froz, SX.frzStep, SX.fork, Go.Value.cells, Go.undef, cfg14]
  refine ⟨by (unfold SX.Ob; first | trivial | omega | ((try simp only [SX.inK]); (try simp [SX.den, SX.IsU8, SX.AllP, *]); (try omega))), ?_⟩
  intro a3 w3 hr3 _
  exact post_retn (end3 hr3 rfl rfl rfl rfl ⟨rfl, hr3.keeps.toBelow⟩).1

theorem enc_low (r : Nat) (c1 : r < 128) : (Utf8.encode (r : Int)).data.toList = [UInt8.ofNat r] := by
  have v : Utf8.valid (r : Int) = true := by simp [Utf8.valid]; omega
  simp [Utf8.encode, v, c1]
theorem enc_dig (n : Nat) (h : n < 10) : Utf8.encode (48 + (n : Int)) = B [dig n] := by
  have e : (48 + (n : Int)) = ((48 + n : Nat) : Int) := by omega
  rw [e, ← B_of (Utf8.encode _), enc_low _ (by omega)]
  rfl

theorem B_append (l m : L8) : B (l ++ m) = B l ++ B m := by
  rw [← B_of (B l ++ B m), show (B l ++ B m).data = (B l).data ++ (B m).data from ByteArray.data_append ..]
  simp [B]
/-- A rune to a string, in a walk. -/
theorem post_rune {Q : Exit → Act → World → Prop} {F : Fr} {st : St} {all : Array Oper} {o : Oper} {l : List Oper} {k : List W} {a : Act} {w : World} (hr : RepX F st a w) (hw : o.guard = none) {x : Operand} (hop : o.op = .convert 21 9 x) {r : Int} (hx : opd st 0 x = some (.v (.int .i32 r))) {d : Nat} (hdst : o.dst = some d) (hdn : d < st.nt) (hks : st.ks.all (fun r => r.tj != d) = true)
    (hk : ∀ a', RepX F { st with env := (d, 0, .v (.string (Utf8.encode r))) :: st.env } a' w → post Tryd.prog Q (.ops all l :: k) .normal a' w) : post Tryd.prog Q (.ops all (o :: l) :: k) .normal a w := by
  have e : a.eval x = .int .i32 r := opd_sound hr.env (c := 0) rfl hx
  refine post_step hw (w' := w) (v := .string (Utf8.encode r)) ?_ ?_
  · simp only [execOp, hop, e]
    simp [convert, run_underlying Tryd.underlying21, run_underlying Tryd.underlying9, Conv.intToString]
  · rw [hdst]
    exact hk _ (hr.retK (KeepsTo.refl w []) (by simp) d (.v (.string (Utf8.encode r))) rfl st.hp hr.all hdn hks)

set_option maxRecDepth 100000 in
set_option maxHeartbeats 4000000 in
/-- The document's digits. -/
theorem digits_ok : ∀ (n : Nat) (w : World), n ≤ 9223372036854775807 → Calls Tryd.prog 9 (denL [.v (.int .i64 n)]).toArray w fun e w' => e = .returned (den (.v (.string (B (digs n))))) ∧ Below w.heap.size w w' := by
  intro n
  induction n using Nat.strongRecOn with
  | ind n ih =>
    intro w hn
    refine enter (F := frame0 w) Tryd.func9 rfl [.v (.int .i64 n)] [] (by simp [Tryd.f9]) trivial (keeps0 w) fun a hr => ?_
    by_cases h : n < 10
    · have h' : ((n : Int) < 10) := by omega
      have hw : IntKind.i32.wrap (48 + (n : Int)) = 48 + (n : Int) := IntWalk.i32_in _ (by omega)
      refine seg cfg9_ok mixed PanicFree.body 1000 [true] [] hr (by first | trivial | exact HpRep.nil | assumption) (by kernel_rfl) fun s_ hs_ => ?_
      simp (maxSteps := 10000000) [SX.vc, SX.stop, SX.contS, SX.contB, SX.contW, SX.contR, SX.contD, SX.sxStep, SX.stepPure, SX.stepNew, SX.stepStore, SX.stepKeep, SX.guardIx, SX.evOp, SX.opd, SX.opds, SX.optOpd, SX.look, SX.putS, SX.gobs, SX.AllP, SX.leave, SX.lookC, SX.lookB, SX.lookT, SX.lookN, SX.findK, SX.evBuiltin, SX.ints, SX.foldI, SX.evBin, SX.evInt, SX.evStr, SX.evEq, SX.arith, SX.evLoad, SX.shapeUp, SX.evFieldAddr, SX.evField, SX.evIndexAddr, SX.evIndex, SX.evFill, SX.evBuild, SX.szs, SX.cellsV, SX.evNew, SX.evStore, SX.spliceL, SX.SV.cells, SX.evConv, SX.evSlice, SX.bnd, SX.evNil, SX.evUn, SX.evPick, SX.pickOpd, SX.popTo, SX.cnd, SX.env0, SX.TD.isAgg, SX.TD.isIface, SX.tails, SX.NotAgg, SX.evLookup, SX.evConvH, SX.evPtrEq, SX.isCells, SX.thaw, SX.frz, SX.fixB, SX.rootIx, SX.Froz, SX.frzStep, SX.fork, Go.Value.cells, Go.undef, cfg9, Tryd.f9, h', hw]
      refine ⟨by (unfold SX.Ob; first | trivial | omega | ((try simp only [SX.inK]); (try simp [SX.den, SX.IsU8, SX.AllP, *]); (try omega))), ?_⟩
      intro a1 w1 hr1 _
      refine post_rune hr1 rfl rfl rfl rfl (by simp) rfl fun a2 hr2 => ?_
      refine seg cfg9_ok mixed PanicFree.body 1000 [] [] hr2 (by first | trivial | exact HpRep.nil | assumption) (by kernel_rfl) fun s_ hs_ => ?_
      simp (maxSteps := 10000000) [SX.vc, SX.stop, SX.contS, SX.contB, SX.contW, SX.contR, SX.contD, SX.sxStep, SX.stepPure, SX.stepNew, SX.stepStore, SX.stepKeep, SX.guardIx, SX.evOp, SX.opd, SX.opds, SX.optOpd, SX.look, SX.putS, SX.gobs, SX.AllP, SX.leave, SX.lookC, SX.lookB, SX.lookT, SX.lookN, SX.findK, SX.evBuiltin, SX.ints, SX.foldI, SX.evBin, SX.evInt, SX.evStr, SX.evEq, SX.arith, SX.evLoad, SX.shapeUp, SX.evFieldAddr, SX.evField, SX.evIndexAddr, SX.evIndex, SX.evFill, SX.evBuild, SX.szs, SX.cellsV, SX.evNew, SX.evStore, SX.spliceL, SX.SV.cells, SX.evConv, SX.evSlice, SX.bnd, SX.evNil, SX.evUn, SX.evPick, SX.pickOpd, SX.popTo, SX.cnd, SX.env0, SX.TD.isAgg, SX.TD.isIface, SX.tails, SX.NotAgg, SX.evLookup, SX.evConvH, SX.evPtrEq, SX.isCells, SX.thaw, SX.frz, SX.fixB, SX.rootIx, SX.Froz, SX.frzStep, SX.fork, Go.Value.cells, Go.undef, cfg9]
      refine ⟨by (unfold SX.Ob; first | trivial | omega | ((try simp only [SX.inK]); (try simp [SX.den, SX.IsU8, SX.AllP, *]); (try omega))), ?_⟩
      intro a3 w3 hr3 _
      exact post_retn (end1 hr3 rfl rfl ⟨by rw [digs_lt h, enc_dig n h], hr3.keeps.toBelow⟩).1
    · have h' : ¬ ((n : Int) < 10) := by omega
      obtain ⟨q, hq⟩ : ∃ q, n / 10 = q := ⟨_, rfl⟩
      obtain ⟨r, hrr⟩ : ∃ r, n % 10 = r := ⟨_, rfl⟩
      have e1 : (n : Int).tdiv 10 = (q : Int) := by rw [Int.tdiv_eq_ediv_of_nonneg (by omega)]; omega
      have e2 : (n : Int).tmod 10 = (r : Int) := by rw [Int.tmod_eq_emod_of_nonneg (by omega)]; omega
      have hr9 : r < 10 := by omega
      have hih := fun w => ih q (by omega) w (by omega)
      have hD := digs_ge h
      rw [hq, hrr] at hD
      have hD2 : (digs q).length ≤ 20 := digs_len _ 19 (by omega)
      have hw : IntKind.i32.wrap (48 + (r : Int)) = 48 + (r : Int) := IntWalk.i32_in _ (by omega)
      refine seg cfg9_ok mixed PanicFree.body 1000 [false] [] hr (by first | trivial | exact HpRep.nil | assumption) (by kernel_rfl) fun s_ hs_ => ?_
      simp (maxSteps := 10000000) [SX.vc, SX.stop, SX.contS, SX.contB, SX.contW, SX.contR, SX.contD, SX.sxStep, SX.stepPure, SX.stepNew, SX.stepStore, SX.stepKeep, SX.guardIx, SX.evOp, SX.opd, SX.opds, SX.optOpd, SX.look, SX.putS, SX.gobs, SX.AllP, SX.leave, SX.lookC, SX.lookB, SX.lookT, SX.lookN, SX.findK, SX.evBuiltin, SX.ints, SX.foldI, SX.evBin, SX.evInt, SX.evStr, SX.evEq, SX.arith, SX.evLoad, SX.shapeUp, SX.evFieldAddr, SX.evField, SX.evIndexAddr, SX.evIndex, SX.evFill, SX.evBuild, SX.szs, SX.cellsV, SX.evNew, SX.evStore, SX.spliceL, SX.SV.cells, SX.evConv, SX.evSlice, SX.bnd, SX.evNil, SX.evUn, SX.evPick, SX.pickOpd, SX.popTo, SX.cnd, SX.env0, SX.TD.isAgg, SX.TD.isIface, SX.tails, SX.NotAgg, SX.evLookup, SX.evConvH, SX.evPtrEq, SX.isCells, SX.thaw, SX.frz, SX.fixB, SX.rootIx, SX.Froz, SX.frzStep, SX.fork, Go.Value.cells, Go.undef, cfg9, Tryd.f9, h', e1]
      refine ⟨by (unfold SX.Ob; first | trivial | omega | ((try simp only [SX.inK]); (try simp [SX.den, SX.IsU8, SX.AllP, *]); (try omega))), ?_⟩
      intro a1 w1 hr1 _
      refine post_call 9 [.v (.int .i64 q)] hr1 (by first | exact wanted_none rfl | exact wanted_zero (hr1.env.same rfl rfl rfl rfl) rfl (by simp) | exact wanted_zero (hr1.env.same rfl rfl rfl rfl) rfl (by simp [*])) rfl (callable 9 Tryd.func9) (hih w1) ?_
      rintro e3 w3 ⟨rfl, hb3⟩
      refine ⟨_, rfl, ?_⟩
      have h3 := hr1.ret hb3 11 (.v (.string (B (digs q)))) rfl _ (hr1.all.below hb3) (by simp) rfl
      refine seg cfg9_ok mixed PanicFree.body 1000 [] [] h3 (by first | trivial | exact HpRep.nil | assumption) (by kernel_rfl) fun s_ hs_ => ?_
      simp (maxSteps := 10000000) [SX.vc, SX.stop, SX.contS, SX.contB, SX.contW, SX.contR, SX.contD, SX.sxStep, SX.stepPure, SX.stepNew, SX.stepStore, SX.stepKeep, SX.guardIx, SX.evOp, SX.opd, SX.opds, SX.optOpd, SX.look, SX.putS, SX.gobs, SX.AllP, SX.leave, SX.lookC, SX.lookB, SX.lookT, SX.lookN, SX.findK, SX.evBuiltin, SX.ints, SX.foldI, SX.evBin, SX.evInt, SX.evStr, SX.evEq, SX.arith, SX.evLoad, SX.shapeUp, SX.evFieldAddr, SX.evField, SX.evIndexAddr, SX.evIndex, SX.evFill, SX.evBuild, SX.szs, SX.cellsV, SX.evNew, SX.evStore, SX.spliceL, SX.SV.cells, SX.evConv, SX.evSlice, SX.bnd, SX.evNil, SX.evUn, SX.evPick, SX.pickOpd, SX.popTo, SX.cnd, SX.env0, SX.TD.isAgg, SX.TD.isIface, SX.tails, SX.NotAgg, SX.evLookup, SX.evConvH, SX.evPtrEq, SX.isCells, SX.thaw, SX.frz, SX.fixB, SX.rootIx, SX.Froz, SX.frzStep, SX.fork, Go.Value.cells, Go.undef, cfg9, e2, hw]
      refine ⟨by (unfold SX.Ob; first | trivial | omega | ((try simp only [SX.inK]); (try simp [SX.den, SX.IsU8, SX.AllP, *]); (try omega))), ?_⟩
      intro a4 w4 hr4 _
      refine post_rune hr4 rfl rfl rfl rfl (by simp) rfl fun a5 hr5 => ?_
      have h5 := hr5.top 16 (.v (.string (B [dig r]))) rfl (by rw [enc_dig r hr9])
      have hsz : ((B (digs q)).size : Int) + ((B [dig r]).size : Int) ≤ 9223372036854775807 := by rw [B_size, B_size]; simp; omega
      refine seg cfg9_ok mixed PanicFree.body 1000 [] [] h5 (by first | trivial | exact HpRep.nil | assumption) (by kernel_rfl) fun s_ hs_ => ?_
      simp (maxSteps := 10000000) [SX.vc, SX.stop, SX.contS, SX.contB, SX.contW, SX.contR, SX.contD, SX.sxStep, SX.stepPure, SX.stepNew, SX.stepStore, SX.stepKeep, SX.guardIx, SX.evOp, SX.opd, SX.opds, SX.optOpd, SX.look, SX.putS, SX.gobs, SX.AllP, SX.leave, SX.lookC, SX.lookB, SX.lookT, SX.lookN, SX.findK, SX.evBuiltin, SX.ints, SX.foldI, SX.evBin, SX.evInt, SX.evStr, SX.evEq, SX.arith, SX.evLoad, SX.shapeUp, SX.evFieldAddr, SX.evField, SX.evIndexAddr, SX.evIndex, SX.evFill, SX.evBuild, SX.szs, SX.cellsV, SX.evNew, SX.evStore, SX.spliceL, SX.SV.cells, SX.evConv, SX.evSlice, SX.bnd, SX.evNil, SX.evUn, SX.evPick, SX.pickOpd, SX.popTo, SX.cnd, SX.env0, SX.TD.isAgg, SX.TD.isIface, SX.tails, SX.NotAgg, SX.evLookup, SX.evConvH, SX.evPtrEq, SX.isCells, SX.thaw, SX.frz, SX.fixB, SX.rootIx, SX.Froz, SX.frzStep, SX.fork, Go.Value.cells, Go.undef, cfg9, hsz]
      refine ⟨by (unfold SX.Ob; first | trivial | omega | ((try simp only [SX.inK]); (try simp [SX.den, SX.IsU8, SX.AllP, *]); (try omega))), ?_⟩
      intro a6 w6 hr6 _
      refine post_retn (end1 hr6 rfl rfl ⟨?_, hr6.keeps.toBelow⟩).1
      rw [hD, B_append]
end Go.Proofs
