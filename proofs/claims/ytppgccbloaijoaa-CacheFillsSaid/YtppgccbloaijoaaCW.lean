/- The law CacheFills, walked. -/
import Derived.Test.YtppgccbloaijoaaCX
import Derived.Test.YtppgccbloaijoaaCO
namespace Go.Proofs
set_option linter.unusedVariables false
set_option linter.unusedSimpArgs false
open Go Go.SX Go.RowKit Go.Ring

theorem CS.keep_nil {P : Nat → Prop} {w w' : World} {c : Nat} {most hits fails : Int} (h : CS P w c most hits fails []) (hs : ∀ x, P x → w'.heap[x]? = w.heap[x]?) : CS P w' c most hits fails [] := by
  obtain ⟨mp, L, D, G, hC, hA, hP⟩ := h
  obtain rfl : L = [] := by simpa [itemsOf] using hA
  refine ⟨mp, [], D, G, ⟨hC.ring.keep fun x hx => hs x (hP x (by rcases hx with rfl | hx; simp; cases hx)), SO.rep_same hC.map (hs mp (hP mp (by simp))), hC.mpc, by simp, by simp, by simp⟩, rfl, hP⟩

/-- The texts' slice. -/
def TextSl (n0 k : Nat) (T : Nat → Nat) (x : SV) (H : Hp) : Prop :=
  (k = 0 ∧ x = .v (.slice none 0 0) ∧ H = []) ∨
  ∃ b cap N row u, 0 < k ∧ n0 ≤ b ∧ x = .sl 0 b 0 0 k cap 1 ∧ H = [(b, true, .arr 0 N row 1 u (0, 0))] ∧ k ≤ cap ∧ cap ≤ N ∧ (∀ j, j < k → row j = [.v (.slice (some ⟨T j, 0, none⟩) 16 16)]) ∧ ∀ j, j < k → T j ≠ b

def FillsBuild (w : World) (n0 c mm n : Nat) (lba ver : Int) (d : Nat) (a : Act) (w' : World) : Prop :=
  ∃ (k : Nat) (T : Nat → Nat) (x : SV) (H : Hp), d = n - k ∧ k ≤ n ∧ CS (fun x => w.heap.size ≤ x ∧ x < n0) w' c mm 0 0 [] ∧ n0 ≤ w'.heap.size ∧ TextSl n0 k T x H ∧ (∀ j, j < k → n0 ≤ T j ∧ Blk w' (T j) 16 (tx j)) ∧
    RepX (frame0 w) ⟨[(41, 0, .v (.int .i64 k)), (40, 0, .v (.int .i64 n)), (11, 0, x), (10, 0, .ptr 0 c 0), (9, 0, .v (.bool true)), (3, 0, .v (.int .i64 n)), (2, 0, .v (.int .i64 ver)), (1, 0, .v (.int .i64 lba)), (0, 0, .v (.int .i64 mm))], H, 0, 0, 127, [], [], []⟩ a w'

def FillsGet (w : World) (c mm n : Nat) (lba ver : Int) (d : Nat) (a : Act) (w' : World) : Prop :=
  ∃ (k : Nat) (K : List Nat), d = n - k ∧ k ≤ n ∧ K.Perm ((downN n).take mm) ∧ CS (fun x => w.heap.size ≤ x) w' c mm ((k - (n - mm) : Nat) : Int) ((min k (n - mm) : Nat) : Int) (K.map (fIt2 lba ver)) ∧
    RepX (frame0 w) ⟨[(66, 0, .v (.int .i64 k)), (65, 0, .v (.int .i64 n)), (10, 0, .ptr 0 c 0), (9, 0, .v (.bool true)), (3, 0, .v (.int .i64 n)), (2, 0, .v (.int .i64 ver)), (1, 0, .v (.int .i64 lba)), (0, 0, .v (.int .i64 mm))], [], 0, 0, 127, [], [], []⟩ a w'

theorem take_nodup (n mm : Nat) : ((downN n).take mm).Nodup := (List.take_sublist mm (downN n)).nodup (downN_nodup n)
theorem take_len (n mm : Nat) : ((downN n).take mm).length = min mm n := by rw [List.length_take, downN_len]

theorem perm_front {K L : List Nat} (h : K.Perm L) (nd : L.Nodup) {k : Nat} (hk : k ∈ K) : (k :: K.filter fun x => x ≠ k).Perm L := by
  have ndK : K.Nodup := h.nodup_iff.2 nd
  refine List.Perm.trans ?_ h
  rw [List.perm_ext_iff_of_nodup _ ndK]
  · intro x
    rw [List.mem_cons, List.mem_filter]
    by_cases hx : x = k
    · subst hx; simp [hk]
    · simp [hx]
  · rw [List.nodup_cons]
    exact ⟨by simp, ndK.filter _⟩

theorem key_den {B : Nat} {A : List It} {x : SV} {i : Nat} {H : Hp} (h : KeySlS B A x i H) : ∃ ad cp, den x = .slice ad A.length cp := by
  rcases h with ⟨h0, rfl, _⟩ | ⟨b, cap, N, row, u, _, _, rfl, _⟩
  · exact ⟨none, 0, by rw [h0]; rfl⟩
  · exact ⟨_, _, rfl⟩

theorem goes_all {lba ver : Int} {n : Nat} {K : List Nat} (h : ∀ x ∈ K, x < n) : ((K.map (fIt2 lba ver)).filter fun x => goesB lba n x.lba).length = K.length := by
  rw [List.filter_eq_self.2, List.length_map]
  intro x hx
  obtain ⟨k, hk, rfl⟩ := List.mem_map.1 hx
  have := h k hk
  show (decide (lba ≤ lba + k) && decide (lba + k - lba < (n : Int))) = true
  rw [Bool.and_eq_true, decide_eq_true_eq, decide_eq_true_eq]
  omega

theorem downN_zero : downN 0 = [] := rfl

set_option maxRecDepth 100000 in
set_option maxHeartbeats 16000000 in
theorem fills_ok (w : World) (x lba ver y : Int) (hx : inK x) (hl : inK lba) (hv : inK ver) (hy : inK y) : Calls Try.prog 5 (denL [.v (.int .i64 x), .v (.int .i64 lba), .v (.int .i64 ver), .v (.int .i64 y)]).toArray w (RoomPost w) := by
  refine enter (F := frame0 w) Try.func5 rfl [.v (.int .i64 x), .v (.int .i64 lba), .v (.int .i64 ver), .v (.int .i64 y)] [] (by simp [Try.f5]) trivial (keeps0 w) fun a hr => ?_
  refine seg cfg5_ok mixed PanicFree.body 1000 [] [] hr (by first | trivial | exact HpRep.nil | assumption) (by kernel_rfl) fun s_ hs_ => ?_
  simp [SX.vc, SX.stop, SX.contS, SX.contB, SX.contW, SX.contR, SX.contD, SX.sxStep, SX.stepPure, SX.stepNew, SX.stepStore, SX.stepKeep, SX.guardIx, SX.evOp, SX.opd, SX.opds, SX.optOpd, SX.look, SX.putS, SX.gobs, SX.AllP, SX.leave, SX.lookC, SX.lookB, SX.lookT, SX.lookN, SX.findK, SX.evBuiltin, SX.ints, SX.foldI, SX.evBin, SX.evInt, SX.evStr, SX.evEq, SX.arith, SX.evLoad, SX.shapeUp, SX.evFieldAddr, SX.evField, SX.evIndexAddr, SX.evIndex, SX.evFill, SX.evBuild, SX.szs, SX.cellsV, SX.evNew, SX.evStore, SX.spliceL, SX.SV.cells, SX.evConv, SX.evSlice, SX.bnd, SX.evNil, SX.evUn, SX.evPick, SX.pickOpd, SX.popTo, SX.cnd, SX.env0, SX.TD.isAgg, SX.TD.isIface, SX.tails, SX.NotAgg, SX.evLookup, SX.evConvH, SX.evPtrEq, SX.isCells, Go.Value.cells, cfg5, Try.f5]
  refine ⟨by (unfold SX.Ob; first | trivial | omega | ((try simp only [SX.inK]); (try simp [SX.den, SX.IsU8, *]); (try omega))), ?_⟩
  intro a1 w1 hr1 _
  refine post_call 6 [] hr1 (wanted_none rfl) rfl (callable 6 Try.func6) (live_ok w1) ?_
  rintro e w2 ⟨rfl, hb2⟩
  refine ⟨_, rfl, ?_⟩
  have h2 := hr1.ret hb2 18 (.v (.bool true)) rfl [] trivial (by simp) rfl
  by_cases hc1 : lba < 0
  · refine seg cfg5_ok mixed PanicFree.body 1000 [true] [(21, true), (25, true)] h2 (by first | trivial | exact HpRep.nil | assumption) (by kernel_rfl) fun s_ hs_ => ?_
    simp [SX.vc, SX.stop, SX.contS, SX.contB, SX.contW, SX.contR, SX.contD, SX.sxStep, SX.stepPure, SX.stepNew, SX.stepStore, SX.stepKeep, SX.guardIx, SX.evOp, SX.opd, SX.opds, SX.optOpd, SX.look, SX.putS, SX.gobs, SX.AllP, SX.leave, SX.lookC, SX.lookB, SX.lookT, SX.lookN, SX.findK, SX.evBuiltin, SX.ints, SX.foldI, SX.evBin, SX.evInt, SX.evStr, SX.evEq, SX.arith, SX.evLoad, SX.shapeUp, SX.evFieldAddr, SX.evField, SX.evIndexAddr, SX.evIndex, SX.evFill, SX.evBuild, SX.szs, SX.cellsV, SX.evNew, SX.evStore, SX.spliceL, SX.SV.cells, SX.evConv, SX.evSlice, SX.bnd, SX.evNil, SX.evUn, SX.evPick, SX.pickOpd, SX.popTo, SX.cnd, SX.env0, SX.TD.isAgg, SX.TD.isIface, SX.tails, SX.NotAgg, SX.evLookup, SX.evConvH, SX.evPtrEq, SX.isCells, Go.Value.cells, cfg5, hc1]
    refine ⟨by (unfold SX.Ob; first | trivial | omega | ((try simp only [SX.inK]); (try simp [SX.den, SX.IsU8, *]); (try omega))), ?_⟩
    intro a3 w3 hr3 _
    exact post_retn (end1 hr3 rfl rfl ⟨rfl, hr3.keeps.toBelow⟩).1
  by_cases hc2 : lba > 1099511627776
  · refine seg cfg5_ok mixed PanicFree.body 1000 [true] [(21, false), (25, true)] h2 (by first | trivial | exact HpRep.nil | assumption) (by kernel_rfl) fun s_ hs_ => ?_
    simp [SX.vc, SX.stop, SX.contS, SX.contB, SX.contW, SX.contR, SX.contD, SX.sxStep, SX.stepPure, SX.stepNew, SX.stepStore, SX.stepKeep, SX.guardIx, SX.evOp, SX.opd, SX.opds, SX.optOpd, SX.look, SX.putS, SX.gobs, SX.AllP, SX.leave, SX.lookC, SX.lookB, SX.lookT, SX.lookN, SX.findK, SX.evBuiltin, SX.ints, SX.foldI, SX.evBin, SX.evInt, SX.evStr, SX.evEq, SX.arith, SX.evLoad, SX.shapeUp, SX.evFieldAddr, SX.evField, SX.evIndexAddr, SX.evIndex, SX.evFill, SX.evBuild, SX.szs, SX.cellsV, SX.evNew, SX.evStore, SX.spliceL, SX.SV.cells, SX.evConv, SX.evSlice, SX.bnd, SX.evNil, SX.evUn, SX.evPick, SX.pickOpd, SX.popTo, SX.cnd, SX.env0, SX.TD.isAgg, SX.TD.isIface, SX.tails, SX.NotAgg, SX.evLookup, SX.evConvH, SX.evPtrEq, SX.isCells, Go.Value.cells, cfg5, hc1, hc2]
    refine ⟨by (unfold SX.Ob; first | trivial | omega | ((try simp only [SX.inK]); (try simp [SX.den, SX.IsU8, *]); (try omega))), ?_⟩
    intro a3 w3 hr3 _
    exact post_retn (end1 hr3 rfl rfl ⟨rfl, hr3.keeps.toBelow⟩).1
  by_cases hc3 : ver < 0
  · refine seg cfg5_ok mixed PanicFree.body 1000 [true] [(21, false), (25, false)] h2 (by first | trivial | exact HpRep.nil | assumption) (by kernel_rfl) fun s_ hs_ => ?_
    simp [SX.vc, SX.stop, SX.contS, SX.contB, SX.contW, SX.contR, SX.contD, SX.sxStep, SX.stepPure, SX.stepNew, SX.stepStore, SX.stepKeep, SX.guardIx, SX.evOp, SX.opd, SX.opds, SX.optOpd, SX.look, SX.putS, SX.gobs, SX.AllP, SX.leave, SX.lookC, SX.lookB, SX.lookT, SX.lookN, SX.findK, SX.evBuiltin, SX.ints, SX.foldI, SX.evBin, SX.evInt, SX.evStr, SX.evEq, SX.arith, SX.evLoad, SX.shapeUp, SX.evFieldAddr, SX.evField, SX.evIndexAddr, SX.evIndex, SX.evFill, SX.evBuild, SX.szs, SX.cellsV, SX.evNew, SX.evStore, SX.spliceL, SX.SV.cells, SX.evConv, SX.evSlice, SX.bnd, SX.evNil, SX.evUn, SX.evPick, SX.pickOpd, SX.popTo, SX.cnd, SX.env0, SX.TD.isAgg, SX.TD.isIface, SX.tails, SX.NotAgg, SX.evLookup, SX.evConvH, SX.evPtrEq, SX.isCells, Go.Value.cells, cfg5, hc1, hc2, hc3]
    refine ⟨by (unfold SX.Ob; first | trivial | omega | ((try simp only [SX.inK]); (try simp [SX.den, SX.IsU8, *]); (try omega))), ?_⟩
    intro a3 w3 hr3 _
    exact post_retn (end1 hr3 rfl rfl ⟨rfl, hr3.keeps.toBelow⟩).1
  obtain ⟨hx1, hx2⟩ := tmod_bounds x 20 (by omega)
  obtain ⟨mm, hq, hq2⟩ := wrapped_idx x 20 (by omega)
  obtain ⟨hy1, hy2⟩ := tmod_bounds y 30 (by omega)
  obtain ⟨n, hj, hj2⟩ := wrapped_idx y 30 (by omega)
  simp only [Int.cast_ofNat_Int] at hx1 hx2 hq hy1 hy2 hj
  refine seg cfg5_ok mixed PanicFree.body 1000 [false] [(21, false), (25, false)] h2 (by first | trivial | exact HpRep.nil | assumption) (by kernel_rfl) fun s_ hs_ => ?_
  simp [SX.vc, SX.stop, SX.contS, SX.contB, SX.contW, SX.contR, SX.contD, SX.sxStep, SX.stepPure, SX.stepNew, SX.stepStore, SX.stepKeep, SX.guardIx, SX.evOp, SX.opd, SX.opds, SX.optOpd, SX.look, SX.putS, SX.gobs, SX.AllP, SX.leave, SX.lookC, SX.lookB, SX.lookT, SX.lookN, SX.findK, SX.evBuiltin, SX.ints, SX.foldI, SX.evBin, SX.evInt, SX.evStr, SX.evEq, SX.arith, SX.evLoad, SX.shapeUp, SX.evFieldAddr, SX.evField, SX.evIndexAddr, SX.evIndex, SX.evFill, SX.evBuild, SX.szs, SX.cellsV, SX.evNew, SX.evStore, SX.spliceL, SX.SV.cells, SX.evConv, SX.evSlice, SX.bnd, SX.evNil, SX.evUn, SX.evPick, SX.pickOpd, SX.popTo, SX.cnd, SX.env0, SX.TD.isAgg, SX.TD.isIface, SX.tails, SX.NotAgg, SX.evLookup, SX.evConvH, SX.evPtrEq, SX.isCells, Go.Value.cells, cfg5, hc1, hc2, hc3, hq, hj]
  refine ⟨by (unfold SX.Ob; first | trivial | omega | ((try simp only [SX.inK]); (try simp [SX.den, SX.IsU8, *]); (try omega))), ?_⟩
  intro a3 w3 hr3 _
  refine post_call 7 [.v (.int .i64 mm)] hr3 (wanted_none rfl) rfl (callable 7 Try.func7) (new_okS (fun x => w.heap.size ≤ x) w3 mm (by unfold inK; omega) (live_tail w3 _ hr3.keeps.size)) ?_
  rintro e w4 ⟨c, rfl, hc, hb4, hS4⟩
  rw [show max (mm : Int) 0 = mm from by omega] at hS4
  refine ⟨_, rfl, ?_⟩
  have h4 := hr3.ret hb4 39 (.ptr 0 c 0) rfl [] trivial (by simp) rfl
  refine seg cfg5_ok mixed PanicFree.body 1000 [] [] h4.rebase (by first | trivial | exact HpRep.nil | assumption) (by kernel_rfl) fun s_ hs_ => ?_
  simp [SX.vc, SX.stop, SX.contS, SX.contB, SX.contW, SX.contR, SX.contD, SX.sxStep, SX.stepPure, SX.stepNew, SX.stepStore, SX.stepKeep, SX.guardIx, SX.evOp, SX.opd, SX.opds, SX.optOpd, SX.look, SX.putS, SX.gobs, SX.AllP, SX.leave, SX.lookC, SX.lookB, SX.lookT, SX.lookN, SX.findK, SX.evBuiltin, SX.ints, SX.foldI, SX.evBin, SX.evInt, SX.evStr, SX.evEq, SX.arith, SX.evLoad, SX.shapeUp, SX.evFieldAddr, SX.evField, SX.evIndexAddr, SX.evIndex, SX.evFill, SX.evBuild, SX.szs, SX.cellsV, SX.evNew, SX.evStore, SX.spliceL, SX.SV.cells, SX.evConv, SX.evSlice, SX.bnd, SX.evNil, SX.evUn, SX.evPick, SX.pickOpd, SX.popTo, SX.cnd, SX.env0, SX.TD.isAgg, SX.TD.isIface, SX.tails, SX.NotAgg, SX.evLookup, SX.evConvH, SX.evPtrEq, SX.isCells, Go.Value.cells, cfg5]
  refine ⟨by (unfold SX.Ob; first | trivial | omega | ((try simp only [SX.inK]); (try simp [SX.den, SX.IsU8, *]); (try omega))), ?_⟩
  intro a5 w5 hr5' _
  have hr5 := h4.unbase hr5'
  have hS5 := hS4.keep (by simpa [mutB] using hr5'.keeps.toBelow)
  obtain ⟨n0, hn0⟩ : ∃ n0, n0 = w5.heap.size := ⟨_, rfl⟩
  have hwn : w.heap.size ≤ n0 := by rw [hn0]; exact hr5.keeps.size
  have hS5' : CS (fun x => w.heap.size ≤ x ∧ x < n0) w5 c mm 0 0 [] := hS5.mono fun x h1 h2 => ⟨h2, by omega⟩
  refine post_loop (FillsBuild w n0 c mm n lba ver) n ⟨0, fun _ => 0, .v (.slice none 0 0), [], rfl, by omega, hS5', by omega, .inl ⟨rfl, rfl, rfl⟩, by omega, hr5.re (by simp [envTo, SX.look]) trivial rfl rfl⟩ ?_
  clear hr h2 hr1 hr3 h4 hr5 hr5' hS4 hS5 hS5' hn0
  rintro d a6 w6 ⟨k, T, sx, H, rfl, hk, hS6, hn6, hT, hB6, hr6⟩
  by_cases hlt : k < n
  · rcases hT with ⟨rfl, rfl, rfl⟩ | ⟨b, cap, N, row, u, hk0, hbn, rfl, rfl, hd1, hd2, hrow, hTb⟩
    · refine seg cfg5_ok mixed PanicFree.body 1000 [true] [] hr6.rebase (by first | trivial | exact HpRep.nil | assumption) (by kernel_rfl) fun s_ hs_ => ?_
      simp [SX.vc, SX.stop, SX.contS, SX.contB, SX.contW, SX.contR, SX.contD, SX.sxStep, SX.stepPure, SX.stepNew, SX.stepStore, SX.stepKeep, SX.guardIx, SX.evOp, SX.opd, SX.opds, SX.optOpd, SX.look, SX.putS, SX.gobs, SX.AllP, SX.leave, SX.lookC, SX.lookB, SX.lookT, SX.lookN, SX.findK, SX.evBuiltin, SX.ints, SX.foldI, SX.evBin, SX.evInt, SX.evStr, SX.evEq, SX.arith, SX.evLoad, SX.shapeUp, SX.evFieldAddr, SX.evField, SX.evIndexAddr, SX.evIndex, SX.evFill, SX.evBuild, SX.szs, SX.cellsV, SX.evNew, SX.evStore, SX.spliceL, SX.SV.cells, SX.evConv, SX.evSlice, SX.bnd, SX.evNil, SX.evUn, SX.evPick, SX.pickOpd, SX.popTo, SX.cnd, SX.env0, SX.TD.isAgg, SX.TD.isIface, SX.tails, SX.NotAgg, SX.evLookup, SX.evConvH, SX.evPtrEq, SX.isCells, Go.Value.cells, cfg5]
      refine ⟨by (unfold SX.Ob; first | trivial | omega | ((try simp only [SX.inK]); (try simp [SX.den, SX.IsU8, *]); (try omega))), ?_⟩
      intro a7 w7 hr7' _
      have hr7 := hr6.unbase hr7'
      refine post_call 9 [.v (.int .i64 0)] hr7 (wanted_none rfl) rfl (callable 9 Try.func9) (text_ok w7 0 (by unfold inK; omega)) ?_
      rintro e w8 ⟨tb, rfl, htb, hB8, hb8⟩
      refine ⟨_, rfl, ?_⟩
      have h8 := hr7.ret hb8 46 (.v (.slice (some ⟨tb, 0, none⟩) 16 16)) rfl _ (hr7.all.below hb8) (by simp) rfl
      have hz7 : w6.heap.size ≤ w7.heap.size := hr7'.keeps.size
      have hz8 : w7.heap.size ≤ w8.heap.size := hb8.size
      have htl := SO.rep_lt hB8
      refine seg cfg5_ok mixed PanicFree.body 1000 [] [] h8.rebase (by first | trivial | exact HpRep.nil | assumption) (by kernel_rfl) fun s_ hs_ => ?_
      simp [SX.vc, SX.stop, SX.contS, SX.contB, SX.contW, SX.contR, SX.contD, SX.sxStep, SX.stepPure, SX.stepNew, SX.stepStore, SX.stepKeep, SX.guardIx, SX.evOp, SX.opd, SX.opds, SX.optOpd, SX.look, SX.putS, SX.gobs, SX.AllP, SX.leave, SX.lookC, SX.lookB, SX.lookT, SX.lookN, SX.findK, SX.evBuiltin, SX.ints, SX.foldI, SX.evBin, SX.evInt, SX.evStr, SX.evEq, SX.arith, SX.evLoad, SX.shapeUp, SX.evFieldAddr, SX.evField, SX.evIndexAddr, SX.evIndex, SX.evFill, SX.evBuild, SX.szs, SX.cellsV, SX.evNew, SX.evStore, SX.spliceL, SX.SV.cells, SX.evConv, SX.evSlice, SX.bnd, SX.evNil, SX.evUn, SX.evPick, SX.pickOpd, SX.popTo, SX.cnd, SX.env0, SX.TD.isAgg, SX.TD.isIface, SX.tails, SX.NotAgg, SX.evLookup, SX.evConvH, SX.evPtrEq, SX.isCells, Go.Value.cells, cfg5]
      refine ⟨by (unfold SX.Ob; first | trivial | omega | ((try simp only [SX.inK]); (try simp [SX.den, SX.IsU8, *]); (try omega))), ?_⟩
      intro a9 w9 hr9 _
      have hz9 : w8.heap.size ≤ w9.heap.size := hr9.keeps.size
      refine post_append cfg5_ok hr9 rfl (d := 48) rfl (by simp) rfl rfl (t := 46) (t' := 46) rfl rfl rfl rfl rfl rfl (by decide) (j := 0) rfl rfl (base2 := 0) (by omega) (.inl ⟨rfl, rfl, rfl, rfl⟩) (b := 0) (N := 0) (row := fun _ => []) (u := 0) (by omega) (by show (2 * (0 + 1) + 192) * 24 ≤ 281474976710656; omega) (fun j hj z hz => ?_) ?_
      · obtain rfl : j = 0 := by omega
        simp at hz; subst hz; trivial
      intro a10 w10 b' cap' N' row' u' hc1' hc2' hrow0 hrow1 hb' hr10
      refine seg cfg5_ok mixed PanicFree.body 1000 [] [] hr10 (by first | trivial | exact HpRep.nil | assumption) (by kernel_rfl) fun s_ hs_ => ?_
      simp [SX.vc, SX.stop, SX.contS, SX.contB, SX.contW, SX.contR, SX.contD, SX.sxStep, SX.stepPure, SX.stepNew, SX.stepStore, SX.stepKeep, SX.guardIx, SX.evOp, SX.opd, SX.opds, SX.optOpd, SX.look, SX.putS, SX.gobs, SX.AllP, SX.leave, SX.lookC, SX.lookB, SX.lookT, SX.lookN, SX.findK, SX.evBuiltin, SX.ints, SX.foldI, SX.evBin, SX.evInt, SX.evStr, SX.evEq, SX.arith, SX.evLoad, SX.shapeUp, SX.evFieldAddr, SX.evField, SX.evIndexAddr, SX.evIndex, SX.evFill, SX.evBuild, SX.szs, SX.cellsV, SX.evNew, SX.evStore, SX.spliceL, SX.SV.cells, SX.evConv, SX.evSlice, SX.bnd, SX.evNil, SX.evUn, SX.evPick, SX.pickOpd, SX.popTo, SX.cnd, SX.env0, SX.TD.isAgg, SX.TD.isIface, SX.tails, SX.NotAgg, SX.evLookup, SX.evConvH, SX.evPtrEq, SX.isCells, Go.Value.cells, cfg5]
      refine ⟨by (unfold SX.Ob; first | trivial | omega | ((try simp only [SX.inK]); (try simp [SX.den, SX.IsU8, *]); (try omega))), ?_⟩
      intro a11 w11 hr11' _
      have hr11 := h8.unbase hr11'
      have hA := hr11.all
      have h0 := hrow1 0 (by omega)
      have hz11 : w8.heap.size ≤ w11.heap.size := hr11'.keeps.size
      have hsame : ∀ x, n0 ≤ w6.heap.size → x < w6.heap.size → x ∉ mutB [] → w11.heap[x]? = w6.heap[x]? := fun x _ h1 h2 => by
        rw [hr11'.old (by omega) h2, hb8.block x (by omega), hr7'.old h1 h2]
      have hS11 := hS6.keep_nil (w' := w11) fun x hx => hsame x hn6 (by omega) (by simp [mutB])
      refine post_rnd (n - (0 + 1)) (by omega) ⟨0 + 1, fun j => if j = 0 then tb else T j, .sl 0 b' 0 0 (0 + 1) cap' 1, [(b', true, .arr 0 N' row' 1 u' (0, 0))], rfl, hlt, hS11, by omega, .inr ⟨b', cap', N', row', u', by omega, ?_, rfl, rfl, by omega, hc2', fun j hj => ?_, fun j hj => ?_⟩, fun j hj => ?_, hr11.re (by simp [envTo, SX.look, den]) ⟨⟨hA.2.1.1, hA.2.1.2.1, by simp⟩, trivial⟩ rfl rfl⟩
      · rcases hb' with ⟨h1, _⟩ | rfl
        · cases h1
        · omega
      · obtain rfl : j = 0 := by omega
        simp at h0
        simp [h0]
      · obtain rfl : j = 0 := by omega
        rcases hb' with ⟨h1, _⟩ | rfl
        · cases h1
        · simp; omega
      · obtain rfl : j = 0 := by omega
        simp only [if_true]
        exact ⟨by omega, 5, SO.rep_same hB8 (hr11'.old htl (by simp [mutB]))⟩
    · refine seg cfg5_ok mixed PanicFree.body 1000 [true] [] hr6.rebase (by first | trivial | exact HpRep.nil | assumption) (by kernel_rfl) fun s_ hs_ => ?_
      simp [SX.vc, SX.stop, SX.contS, SX.contB, SX.contW, SX.contR, SX.contD, SX.sxStep, SX.stepPure, SX.stepNew, SX.stepStore, SX.stepKeep, SX.guardIx, SX.evOp, SX.opd, SX.opds, SX.optOpd, SX.look, SX.putS, SX.gobs, SX.AllP, SX.leave, SX.lookC, SX.lookB, SX.lookT, SX.lookN, SX.findK, SX.evBuiltin, SX.ints, SX.foldI, SX.evBin, SX.evInt, SX.evStr, SX.evEq, SX.arith, SX.evLoad, SX.shapeUp, SX.evFieldAddr, SX.evField, SX.evIndexAddr, SX.evIndex, SX.evFill, SX.evBuild, SX.szs, SX.cellsV, SX.evNew, SX.evStore, SX.spliceL, SX.SV.cells, SX.evConv, SX.evSlice, SX.bnd, SX.evNil, SX.evUn, SX.evPick, SX.pickOpd, SX.popTo, SX.cnd, SX.env0, SX.TD.isAgg, SX.TD.isIface, SX.tails, SX.NotAgg, SX.evLookup, SX.evConvH, SX.evPtrEq, SX.isCells, Go.Value.cells, cfg5]
      refine ⟨by (unfold SX.Ob; first | trivial | omega | ((try simp only [SX.inK]); (try simp [SX.den, SX.IsU8, *]); (try omega))), ?_⟩
      intro a7 w7 hr7' _
      have hr7 := hr6.unbase hr7'
      refine post_call 9 [.v (.int .i64 k)] hr7 (wanted_none rfl) rfl (callable 9 Try.func9) (text_ok w7 k (by unfold inK; omega)) ?_
      rintro e w8 ⟨tb, rfl, htb, hB8, hb8⟩
      refine ⟨_, rfl, ?_⟩
      have h8 := hr7.ret hb8 46 (.v (.slice (some ⟨tb, 0, none⟩) 16 16)) rfl _ (hr7.all.below hb8) (by simp) rfl
      have hz7 : w6.heap.size ≤ w7.heap.size := hr7'.keeps.size
      have hz8 : w7.heap.size ≤ w8.heap.size := hb8.size
      have htl := SO.rep_lt hB8
      refine seg cfg5_ok mixed PanicFree.body 1000 [] [] h8.rebase (by first | trivial | exact HpRep.nil | assumption) (by kernel_rfl) fun s_ hs_ => ?_
      simp [SX.vc, SX.stop, SX.contS, SX.contB, SX.contW, SX.contR, SX.contD, SX.sxStep, SX.stepPure, SX.stepNew, SX.stepStore, SX.stepKeep, SX.guardIx, SX.evOp, SX.opd, SX.opds, SX.optOpd, SX.look, SX.putS, SX.gobs, SX.AllP, SX.leave, SX.lookC, SX.lookB, SX.lookT, SX.lookN, SX.findK, SX.evBuiltin, SX.ints, SX.foldI, SX.evBin, SX.evInt, SX.evStr, SX.evEq, SX.arith, SX.evLoad, SX.shapeUp, SX.evFieldAddr, SX.evField, SX.evIndexAddr, SX.evIndex, SX.evFill, SX.evBuild, SX.szs, SX.cellsV, SX.evNew, SX.evStore, SX.spliceL, SX.SV.cells, SX.evConv, SX.evSlice, SX.bnd, SX.evNil, SX.evUn, SX.evPick, SX.pickOpd, SX.popTo, SX.cnd, SX.env0, SX.TD.isAgg, SX.TD.isIface, SX.tails, SX.NotAgg, SX.evLookup, SX.evConvH, SX.evPtrEq, SX.isCells, Go.Value.cells, cfg5]
      refine ⟨by (unfold SX.Ob; first | trivial | omega | ((try simp only [SX.inK]); (try simp [SX.den, SX.IsU8, *]); (try omega))), ?_⟩
      intro a9 w9 hr9 _
      have hz9 : w8.heap.size ≤ w9.heap.size := hr9.keeps.size
      refine post_append cfg5_ok hr9 rfl (d := 48) rfl (by simp) rfl rfl (t := 46) (t' := 46) rfl rfl rfl rfl rfl rfl (by decide) (j := 1) rfl rfl (base2 := 0) (by omega) (.inr ⟨rfl, rfl, hd2, hd1⟩) (by omega) (by show (2 * (k + 1) + 192) * 24 ≤ 281474976710656; omega) (fun j hj z hz => ?_) ?_
      · obtain rfl : j = 0 := by omega
        simp at hz; subst hz; trivial
      intro a10 w10 b' cap' N' row' u' hc1' hc2' hrow0 hrow1 hb' hr10
      refine seg cfg5_ok mixed PanicFree.body 1000 [] [] hr10 (by first | trivial | exact HpRep.nil | assumption) (by kernel_rfl) fun s_ hs_ => ?_
      simp [SX.vc, SX.stop, SX.contS, SX.contB, SX.contW, SX.contR, SX.contD, SX.sxStep, SX.stepPure, SX.stepNew, SX.stepStore, SX.stepKeep, SX.guardIx, SX.evOp, SX.opd, SX.opds, SX.optOpd, SX.look, SX.putS, SX.gobs, SX.AllP, SX.leave, SX.lookC, SX.lookB, SX.lookT, SX.lookN, SX.findK, SX.evBuiltin, SX.ints, SX.foldI, SX.evBin, SX.evInt, SX.evStr, SX.evEq, SX.arith, SX.evLoad, SX.shapeUp, SX.evFieldAddr, SX.evField, SX.evIndexAddr, SX.evIndex, SX.evFill, SX.evBuild, SX.szs, SX.cellsV, SX.evNew, SX.evStore, SX.spliceL, SX.SV.cells, SX.evConv, SX.evSlice, SX.bnd, SX.evNil, SX.evUn, SX.evPick, SX.pickOpd, SX.popTo, SX.cnd, SX.env0, SX.TD.isAgg, SX.TD.isIface, SX.tails, SX.NotAgg, SX.evLookup, SX.evConvH, SX.evPtrEq, SX.isCells, Go.Value.cells, cfg5]
      refine ⟨by (unfold SX.Ob; first | trivial | omega | ((try simp only [SX.inK]); (try simp [SX.den, SX.IsU8, *]); (try omega))), ?_⟩
      intro a11 w11 hr11' _
      have hr11 := h8.unbase hr11'
      have hA := hr11.all
      have h0 := hrow1 0 (by omega)
      have hz11 : w8.heap.size ≤ w11.heap.size := hr11'.keeps.size
      have hsame : ∀ x, n0 ≤ w6.heap.size → x < w6.heap.size → x ∉ mutB [(b, true, .arr 0 N row 1 u (0, 0))] → w11.heap[x]? = w6.heap[x]? := fun x _ h1 h2 => by
        rw [hr11'.old (by omega) h2, hb8.block x (by omega), hr7'.old h1 h2]
      have hS11 := hS6.keep_nil (w' := w11) fun x hx => hsame x hn6 (by omega) (by simp [mutB]; omega)
      refine post_rnd (n - (k + 1)) (by omega) ⟨k + 1, fun j => if j = k then tb else T j, .sl 0 b' 0 0 (k + 1) cap' 1, [(b', true, .arr 0 N' row' 1 u' (0, 0))], rfl, hlt, hS11, by omega, .inr ⟨b', cap', N', row', u', by omega, ?_, rfl, rfl, by omega, hc2', fun j hj => ?_, fun j hj => ?_⟩, fun j hj => ?_, hr11.re (by simp [envTo, SX.look, den]) ⟨⟨hA.1.1, hA.1.2.1, by simp⟩, trivial⟩ rfl rfl⟩
      · rcases hb' with ⟨_, rfl⟩ | rfl
        · exact hbn
        · omega
      · by_cases hjk : j < k
        · rw [hrow0 j hjk, hrow j hjk]
          simp [show j ≠ k by omega]
        · obtain rfl : j = k := by omega
          simp at h0
          simp [h0]
      · have hbl : b < w6.heap.size := SO.rep_lt hr6.all.1.1
        by_cases hjk : j < k
        · simp only [show j ≠ k by omega, if_false]
          obtain ⟨u2, hu2⟩ := (hB6 j hjk).2
          have := SO.rep_lt hu2
          rcases hb' with ⟨_, rfl⟩ | rfl
          · exact hTb j hjk
          · omega
        · obtain rfl : j = k := by omega
          simp only [if_true]
          rcases hb' with ⟨_, rfl⟩ | rfl
          · omega
          · omega
      · have hbl : b < w6.heap.size := SO.rep_lt hr6.all.1.1
        by_cases hjk : j < k
        · simp only [show j ≠ k by omega, if_false]
          obtain ⟨h1, u2, hu2⟩ := hB6 j hjk
          exact ⟨h1, u2, SO.rep_same hu2 (hsame _ hn6 (SO.rep_lt hu2) (by simp [mutB]; exact hTb j hjk))⟩
        · obtain rfl : j = k := by omega
          simp only [if_true]
          exact ⟨by omega, 5, SO.rep_same hB8 (hr11'.old htl (by simp [mutB]; omega))⟩
  obtain rfl : k = n := by omega
  rcases hT with ⟨rfl, rfl, rfl⟩ | ⟨b, cap, N, row, u, hk0, hbn, rfl, rfl, hd1, hd2, hrow, hTb⟩
  · refine seg cfg5_ok mixed PanicFree.body 1000 [false] [] hr6.rebase (by first | trivial | exact HpRep.nil | assumption) (by kernel_rfl) fun s_ hs_ => ?_
    simp [SX.vc, SX.stop, SX.contS, SX.contB, SX.contW, SX.contR, SX.contD, SX.sxStep, SX.stepPure, SX.stepNew, SX.stepStore, SX.stepKeep, SX.guardIx, SX.evOp, SX.opd, SX.opds, SX.optOpd, SX.look, SX.putS, SX.gobs, SX.AllP, SX.leave, SX.lookC, SX.lookB, SX.lookT, SX.lookN, SX.findK, SX.evBuiltin, SX.ints, SX.foldI, SX.evBin, SX.evInt, SX.evStr, SX.evEq, SX.arith, SX.evLoad, SX.shapeUp, SX.evFieldAddr, SX.evField, SX.evIndexAddr, SX.evIndex, SX.evFill, SX.evBuild, SX.szs, SX.cellsV, SX.evNew, SX.evStore, SX.spliceL, SX.SV.cells, SX.evConv, SX.evSlice, SX.bnd, SX.evNil, SX.evUn, SX.evPick, SX.pickOpd, SX.popTo, SX.cnd, SX.env0, SX.TD.isAgg, SX.TD.isIface, SX.tails, SX.NotAgg, SX.evLookup, SX.evConvH, SX.evPtrEq, SX.isCells, Go.Value.cells, cfg5]
    refine ⟨by (unfold SX.Ob; first | trivial | omega | ((try simp only [SX.inK]); (try simp [SX.den, SX.IsU8, *]); (try omega))), ?_⟩
    intro a7 w7 hr7' _
    have hr7 := hr6.unbase hr7'
    have hS7 := hS6.keep (by simpa [mutB] using hr7'.keeps.toBelow)
    refine post_call 16 [.ptr 0 c 0, .v (.int .i64 lba), .v (.int .i64 ver), .v (.slice none 0 0)] hr7 (wanted_none rfl) rfl (callable 16 Try.func16) (fill_nil w7 c lba ver) ?_
    rintro e w8 ⟨rfl, hb8⟩
    refine ⟨_, rfl, ?_⟩
    have h12 := hr7.ret hb8 54 (.v (.int .i64 0)) rfl [] trivial (by simp) rfl
    have hS12 : CS (fun x => w.heap.size ≤ x) w8 c mm 0 0 (((downN 0).take mm).map (fIt2 lba ver)) := by
      have e : ((downN 0).take mm).map (fIt2 lba ver) = [] := by simp [downN]
      rw [e]
      exact (hS7.keep hb8).mono fun x _ h => h.1
    have hlenA : (((downN 0).take mm).map (fIt2 lba ver)).length = min mm 0 := by rw [List.length_map, take_len]
    refine seg cfg5_ok mixed PanicFree.body 1000 [] [(56, false)] h12.rebase (by first | trivial | exact HpRep.nil | assumption) (by kernel_rfl) fun s_ hs_ => ?_
    simp [SX.vc, SX.stop, SX.contS, SX.contB, SX.contW, SX.contR, SX.contD, SX.sxStep, SX.stepPure, SX.stepNew, SX.stepStore, SX.stepKeep, SX.guardIx, SX.evOp, SX.opd, SX.opds, SX.optOpd, SX.look, SX.putS, SX.gobs, SX.AllP, SX.leave, SX.lookC, SX.lookB, SX.lookT, SX.lookN, SX.findK, SX.evBuiltin, SX.ints, SX.foldI, SX.evBin, SX.evInt, SX.evStr, SX.evEq, SX.arith, SX.evLoad, SX.shapeUp, SX.evFieldAddr, SX.evField, SX.evIndexAddr, SX.evIndex, SX.evFill, SX.evBuild, SX.szs, SX.cellsV, SX.evNew, SX.evStore, SX.spliceL, SX.SV.cells, SX.evConv, SX.evSlice, SX.bnd, SX.evNil, SX.evUn, SX.evPick, SX.pickOpd, SX.popTo, SX.cnd, SX.env0, SX.TD.isAgg, SX.TD.isIface, SX.tails, SX.NotAgg, SX.evLookup, SX.evConvH, SX.evPtrEq, SX.isCells, Go.Value.cells, cfg5]
    refine ⟨by (unfold SX.Ob; first | trivial | omega | ((try simp only [SX.inK]); (try simp [SX.den, SX.IsU8, *]); (try omega))), ?_⟩
    intro a13 w13 hr13' _
    have hr13 := h12.unbase hr13'
    have hS13 := hS12.keep (by simpa [mutB] using hr13'.keeps.toBelow)
    refine post_call 12 [.ptr 0 c 0] hr13 (wanted_zero (hr13.env.same rfl rfl rfl rfl) rfl (by simp)) rfl (callable 12 Try.func12) (keys_okS _ w13 c _ _ _ _ hS13 (by omega)) ?_
    rintro e w14 ⟨sx, H, hsx, rfl, hH, hb14⟩
    refine ⟨_, rfl, ?_⟩
    obtain ⟨ad, cp, hden⟩ := key_den hsx
    rw [hlenA] at hden
    have h14 := hr13.ret hb14 58 (.v (.slice ad (min mm 0) cp)) hden [] trivial (by simp) rfl
    have hS14 := hS13.keep hb14
    refine seg cfg5_ok mixed PanicFree.body 1000 [false] [(56, false)] h14.rebase (by first | trivial | exact HpRep.nil | assumption) (by kernel_rfl) fun s_ hs_ => ?_
    simp [SX.vc, SX.stop, SX.contS, SX.contB, SX.contW, SX.contR, SX.contD, SX.sxStep, SX.stepPure, SX.stepNew, SX.stepStore, SX.stepKeep, SX.guardIx, SX.evOp, SX.opd, SX.opds, SX.optOpd, SX.look, SX.putS, SX.gobs, SX.AllP, SX.leave, SX.lookC, SX.lookB, SX.lookT, SX.lookN, SX.findK, SX.evBuiltin, SX.ints, SX.foldI, SX.evBin, SX.evInt, SX.evStr, SX.evEq, SX.arith, SX.evLoad, SX.shapeUp, SX.evFieldAddr, SX.evField, SX.evIndexAddr, SX.evIndex, SX.evFill, SX.evBuild, SX.szs, SX.cellsV, SX.evNew, SX.evStore, SX.spliceL, SX.SV.cells, SX.evConv, SX.evSlice, SX.bnd, SX.evNil, SX.evUn, SX.evPick, SX.pickOpd, SX.popTo, SX.cnd, SX.env0, SX.TD.isAgg, SX.TD.isIface, SX.tails, SX.NotAgg, SX.evLookup, SX.evConvH, SX.evPtrEq, SX.isCells, Go.Value.cells, cfg5]
    refine ⟨by (unfold SX.Ob; first | trivial | omega | ((try simp only [SX.inK]); (try simp [SX.den, SX.IsU8, *]); (try omega))), ?_⟩
    intro a15 w15 hr15' _
    have hr15 := h14.unbase hr15'
    have hS15 := hS14.keep (by simpa [mutB] using hr15'.keeps.toBelow)
    refine post_loop (FillsGet w c mm 0 lba ver) 0 ⟨0, _, rfl, by omega, .refl _, by simpa using hS15, hr15.re (by simp [envTo, SX.look]) trivial rfl rfl⟩ ?_
    clear hr6 hr7 hr7' hS6 hS7 hB6 h12 hr13 hr13' h14 hr15 hr15' hS12 hS13 hS14 hS15 hlenA hsx hH hden
    rintro d a16 w16 ⟨p, K, rfl, hp, hK, hS16, hr16⟩
    by_cases hlt : p < 0
    · refine seg cfg5_ok mixed PanicFree.body 1000 [true] [] hr16.rebase (by first | trivial | exact HpRep.nil | assumption) (by kernel_rfl) fun s_ hs_ => ?_
      simp [SX.vc, SX.stop, SX.contS, SX.contB, SX.contW, SX.contR, SX.contD, SX.sxStep, SX.stepPure, SX.stepNew, SX.stepStore, SX.stepKeep, SX.guardIx, SX.evOp, SX.opd, SX.opds, SX.optOpd, SX.look, SX.putS, SX.gobs, SX.AllP, SX.leave, SX.lookC, SX.lookB, SX.lookT, SX.lookN, SX.findK, SX.evBuiltin, SX.ints, SX.foldI, SX.evBin, SX.evInt, SX.evStr, SX.evEq, SX.arith, SX.evLoad, SX.shapeUp, SX.evFieldAddr, SX.evField, SX.evIndexAddr, SX.evIndex, SX.evFill, SX.evBuild, SX.szs, SX.cellsV, SX.evNew, SX.evStore, SX.spliceL, SX.SV.cells, SX.evConv, SX.evSlice, SX.bnd, SX.evNil, SX.evUn, SX.evPick, SX.pickOpd, SX.popTo, SX.cnd, SX.env0, SX.TD.isAgg, SX.TD.isIface, SX.tails, SX.NotAgg, SX.evLookup, SX.evConvH, SX.evPtrEq, SX.isCells, Go.Value.cells, cfg5]
      refine ⟨by (unfold SX.Ob; first | trivial | omega | ((try simp only [SX.inK]); (try simp [SX.den, SX.IsU8, *]); (try omega))), ?_⟩
      intro a17 w17 hr17' _
      have hr17 := hr16.unbase hr17'
      have hS17 := hS16.keep (by simpa [mutB] using hr17'.keeps.toBelow)
      have hmem : p ∈ K ↔ 0 ≤ p + mm := by rw [hK.mem_iff, take_mem]; omega
      refine post_call 10 [.ptr 0 c 0, .v (.int .i64 (lba + p)), .v (.int .i64 ver)] hr17 (wanted_none rfl) rfl (callable 10 Try.func10) (get_okS _ w17 c _ _ _ _ hS17 (lba + p) ver (by unfold inK; omega) (by unfold inK; omega)) ?_
      rintro e w18 ⟨hk18, hcase⟩
      by_cases hin : 0 ≤ p + mm
      · have hpk := hmem.2 hin
        have hfd : findL (lba + p) (K.map (fIt2 lba ver)) = some (fIt2 lba ver p) := by rw [findL_map2, if_pos hpk]
        rcases hcase with ⟨x, b', cap', hf, hvx, rfl, hsz, ⟨u, hB18⟩, hS18⟩ | ⟨hno, _⟩
        rotate_left
        · exact absurd rfl (hno _ hfd)
        obtain rfl : fIt2 lba ver p = x := by rw [hfd] at hf; simpa using hf
        refine ⟨_, rfl, ?_⟩
        have h18 := hr17.retC hk18 (fun _ h => h) 75 (.tu [.sl 0 b' 0 0 16 cap' 1, .v (.bool true)]) rfl [(b', false, .arr 0 16 (fun j => [.v (.int .u8 (tx p j))]) 1 u (0, 0))] ⟨⟨hB18, by simp, by simp⟩, trivial⟩ (by simp) rfl
        have hS18 := hS18.mono fun x _ h => h.1
        rw [othersL_map2, ← List.map_cons] at hS18
        refine seg cfg5_ok mixed PanicFree.body 1000 [] [(85, false), (87, true)] h18.rebase (by first | trivial | exact HpRep.nil | assumption) (by kernel_rfl) fun s_ hs_ => ?_
        simp [SX.vc, SX.stop, SX.contS, SX.contB, SX.contW, SX.contR, SX.contD, SX.sxStep, SX.stepPure, SX.stepNew, SX.stepStore, SX.stepKeep, SX.guardIx, SX.evOp, SX.opd, SX.opds, SX.optOpd, SX.look, SX.putS, SX.gobs, SX.AllP, SX.leave, SX.lookC, SX.lookB, SX.lookT, SX.lookN, SX.findK, SX.evBuiltin, SX.ints, SX.foldI, SX.evBin, SX.evInt, SX.evStr, SX.evEq, SX.arith, SX.evLoad, SX.shapeUp, SX.evFieldAddr, SX.evField, SX.evIndexAddr, SX.evIndex, SX.evFill, SX.evBuild, SX.szs, SX.cellsV, SX.evNew, SX.evStore, SX.spliceL, SX.SV.cells, SX.evConv, SX.evSlice, SX.bnd, SX.evNil, SX.evUn, SX.evPick, SX.pickOpd, SX.popTo, SX.cnd, SX.env0, SX.TD.isAgg, SX.TD.isIface, SX.tails, SX.NotAgg, SX.evLookup, SX.evConvH, SX.evPtrEq, SX.isCells, Go.Value.cells, cfg5]
        refine ⟨by (unfold SX.Ob; first | trivial | omega | ((try simp only [SX.inK]); (try simp [SX.den, SX.IsU8, *]); (try omega))), ?_⟩
        intro a19 w19 hr19' ht19
        have hr19 := h18.unbase hr19'
        have hS19 := hS18.keep (by simpa [mutB] using hr19'.keeps.toBelow)
        refine post_callD 9 [.v (.int .i64 p)] hr19 rfl (wanted_zero (hr19.env.same rfl rfl rfl rfl) rfl (by simp)) rfl (callable 9 Try.func9) (text_ok w19 p (by unfold inK; omega)) ?_
        rintro e w20 ⟨tb, rfl, htb, hB20, hb20⟩
        have ht20 := HpRep_below ht19 hb20
        refine ⟨_, rfl, ht20, ?_⟩
        have hA19 := hr19.all
        have h20 := hr19.ret hb20 91 (.sl 1 tb 0 0 16 16 1) rfl [(b', false, .arr 0 16 (fun j => [.v (.int .u8 (tx p j))]) 1 u (0, 0)), (tb, false, .arr 0 16 (fun j => [.v (.int .u8 (tx p j))]) 1 5 (0, 0))] (HpAll.append (hr19.all.below hb20) hB20 (by simp) (by
          intro e he
          simp at he
          subst he
          have := SO.rep_lt hA19.1.1
          simp only
          omega)) (by simp) rfl
        have hS20 := hS19.keep hb20
        refine seg cfg5_ok mixed PanicFree.body 1000 [false] [(85, false), (87, true)] h20.rebase (by first | trivial | exact HpRep.nil | assumption) (by kernel_rfl) fun s_ hs_ => ?_
        simp [SX.vc, SX.stop, SX.contS, SX.contB, SX.contW, SX.contR, SX.contD, SX.sxStep, SX.stepPure, SX.stepNew, SX.stepStore, SX.stepKeep, SX.guardIx, SX.evOp, SX.opd, SX.opds, SX.optOpd, SX.look, SX.putS, SX.gobs, SX.AllP, SX.leave, SX.lookC, SX.lookB, SX.lookT, SX.lookN, SX.findK, SX.evBuiltin, SX.ints, SX.foldI, SX.evBin, SX.evInt, SX.evStr, SX.evEq, SX.arith, SX.evLoad, SX.shapeUp, SX.evFieldAddr, SX.evField, SX.evIndexAddr, SX.evIndex, SX.evFill, SX.evBuild, SX.szs, SX.cellsV, SX.evNew, SX.evStore, SX.spliceL, SX.SV.cells, SX.evConv, SX.evSlice, SX.bnd, SX.evNil, SX.evUn, SX.evPick, SX.pickOpd, SX.popTo, SX.cnd, SX.env0, SX.TD.isAgg, SX.TD.isIface, SX.tails, SX.NotAgg, SX.evLookup, SX.evConvH, SX.evPtrEq, SX.isCells, Go.Value.cells, cfg5]
        refine ⟨by (unfold SX.Ob; first | trivial | omega | ((try simp only [SX.inK]); (try simp [SX.den, SX.IsU8, *]); (try omega))), ?_⟩
        intro a21 w21 hr21' _
        have hr21 := h20.unbase hr21'
        have hS21 := hS20.keep (by simpa [mutB] using hr21'.keeps.toBelow)
        have e1 : (((p - (0 - mm) : Nat) : Int) + 1) = ((p + 1 - (0 - mm) : Nat) : Int) := by omega
        have e2 : ((min p (0 - mm) : Nat) : Int) = ((min (p + 1) (0 - mm) : Nat) : Int) := by omega
        rw [e1, e2] at hS21
        exact post_rnd (0 - (p + 1)) (by omega) ⟨p + 1, _, rfl, hlt, perm_front hK (take_nodup 0 mm) hpk, hS21, hr21.re (by simp [envTo, SX.look, den]) trivial rfl rfl⟩
      · have hfd : findL (lba + p) (K.map (fIt2 lba ver)) = none := by rw [findL_map2, if_neg fun h => hin (hmem.1 h)]
        rcases hcase with ⟨x, b', cap', hf, _⟩ | ⟨hno, rfl, hS18⟩
        · rw [hfd] at hf; cases hf
        refine ⟨_, rfl, ?_⟩
        have h18 := hr17.retC hk18 (fun _ h => h) 75 (.tu [.v (.slice none 0 0), .v (.bool false)]) rfl [] trivial (by simp) rfl
        refine seg cfg5_ok mixed PanicFree.body 1000 [false] [(85, false), (87, false)] h18.rebase (by first | trivial | exact HpRep.nil | assumption) (by kernel_rfl) fun s_ hs_ => ?_
        simp [SX.vc, SX.stop, SX.contS, SX.contB, SX.contW, SX.contR, SX.contD, SX.sxStep, SX.stepPure, SX.stepNew, SX.stepStore, SX.stepKeep, SX.guardIx, SX.evOp, SX.opd, SX.opds, SX.optOpd, SX.look, SX.putS, SX.gobs, SX.AllP, SX.leave, SX.lookC, SX.lookB, SX.lookT, SX.lookN, SX.findK, SX.evBuiltin, SX.ints, SX.foldI, SX.evBin, SX.evInt, SX.evStr, SX.evEq, SX.arith, SX.evLoad, SX.shapeUp, SX.evFieldAddr, SX.evField, SX.evIndexAddr, SX.evIndex, SX.evFill, SX.evBuild, SX.szs, SX.cellsV, SX.evNew, SX.evStore, SX.spliceL, SX.SV.cells, SX.evConv, SX.evSlice, SX.bnd, SX.evNil, SX.evUn, SX.evPick, SX.pickOpd, SX.popTo, SX.cnd, SX.env0, SX.TD.isAgg, SX.TD.isIface, SX.tails, SX.NotAgg, SX.evLookup, SX.evConvH, SX.evPtrEq, SX.isCells, Go.Value.cells, cfg5]
        refine ⟨by (unfold SX.Ob; first | trivial | omega | ((try simp only [SX.inK]); (try simp [SX.den, SX.IsU8, *]); (try omega))), ?_⟩
        intro a21 w21 hr21' _
        have hr21 := h18.unbase hr21'
        have hS21 := hS18.keep (by simpa [mutB] using hr21'.keeps.toBelow)
        have e1 : ((p - (0 - mm) : Nat) : Int) = ((p + 1 - (0 - mm) : Nat) : Int) := by omega
        have e2 : (((min p (0 - mm) : Nat) : Int) + 1) = ((min (p + 1) (0 - mm) : Nat) : Int) := by omega
        rw [e1, e2] at hS21
        exact post_rnd (0 - (p + 1)) (by omega) ⟨p + 1, _, rfl, hlt, hK, hS21, hr21.re (by simp [envTo, SX.look, den]) trivial rfl rfl⟩
    obtain rfl : p = 0 := by omega
    refine seg cfg5_ok mixed PanicFree.body 1000 [false] [] hr16.rebase (by first | trivial | exact HpRep.nil | assumption) (by kernel_rfl) fun s_ hs_ => ?_
    simp [SX.vc, SX.stop, SX.contS, SX.contB, SX.contW, SX.contR, SX.contD, SX.sxStep, SX.stepPure, SX.stepNew, SX.stepStore, SX.stepKeep, SX.guardIx, SX.evOp, SX.opd, SX.opds, SX.optOpd, SX.look, SX.putS, SX.gobs, SX.AllP, SX.leave, SX.lookC, SX.lookB, SX.lookT, SX.lookN, SX.findK, SX.evBuiltin, SX.ints, SX.foldI, SX.evBin, SX.evInt, SX.evStr, SX.evEq, SX.arith, SX.evLoad, SX.shapeUp, SX.evFieldAddr, SX.evField, SX.evIndexAddr, SX.evIndex, SX.evFill, SX.evBuild, SX.szs, SX.cellsV, SX.evNew, SX.evStore, SX.spliceL, SX.SV.cells, SX.evConv, SX.evSlice, SX.bnd, SX.evNil, SX.evUn, SX.evPick, SX.pickOpd, SX.popTo, SX.cnd, SX.env0, SX.TD.isAgg, SX.TD.isIface, SX.tails, SX.NotAgg, SX.evLookup, SX.evConvH, SX.evPtrEq, SX.isCells, Go.Value.cells, cfg5]
    refine ⟨by (unfold SX.Ob; first | trivial | omega | ((try simp only [SX.inK]); (try simp [SX.den, SX.IsU8, *]); (try omega))), ?_⟩
    intro a17 w17 hr17' _
    have hr17 := hr16.unbase hr17'
    have hS17 := hS16.keep (by simpa [mutB] using hr17'.keeps.toBelow)
    refine post_call 11 [.ptr 0 c 0] hr17 (wanted_none rfl) rfl (callable 11 Try.func11) (hits_okS _ w17 c _ _ _ _ hS17) ?_
    rintro e w18 ⟨rfl, hb18⟩
    refine ⟨_, rfl, ?_⟩
    have hS18 := hS17.keep hb18
    have h18 := hr17.ret hb18 99 (.tu [.v (.int .i64 ((0 - (0 - mm) : Nat) : Int)), .v (.int .i64 ((min 0 (0 - mm) : Nat) : Int))]) rfl [] trivial (by simp) rfl
    refine seg cfg5_ok mixed PanicFree.body 1000 [] [(103, true), (110, true), (119, true)] h18.rebase (by first | trivial | exact HpRep.nil | assumption) (by kernel_rfl) fun s_ hs_ => ?_
    simp [SX.vc, SX.stop, SX.contS, SX.contB, SX.contW, SX.contR, SX.contD, SX.sxStep, SX.stepPure, SX.stepNew, SX.stepStore, SX.stepKeep, SX.guardIx, SX.evOp, SX.opd, SX.opds, SX.optOpd, SX.look, SX.putS, SX.gobs, SX.AllP, SX.leave, SX.lookC, SX.lookB, SX.lookT, SX.lookN, SX.findK, SX.evBuiltin, SX.ints, SX.foldI, SX.evBin, SX.evInt, SX.evStr, SX.evEq, SX.arith, SX.evLoad, SX.shapeUp, SX.evFieldAddr, SX.evField, SX.evIndexAddr, SX.evIndex, SX.evFill, SX.evBuild, SX.szs, SX.cellsV, SX.evNew, SX.evStore, SX.spliceL, SX.SV.cells, SX.evConv, SX.evSlice, SX.bnd, SX.evNil, SX.evUn, SX.evPick, SX.pickOpd, SX.popTo, SX.cnd, SX.env0, SX.TD.isAgg, SX.TD.isIface, SX.tails, SX.NotAgg, SX.evLookup, SX.evConvH, SX.evPtrEq, SX.isCells, Go.Value.cells, cfg5]
    refine ⟨by (unfold SX.Ob; first | trivial | omega | ((try simp only [SX.inK]); (try simp [SX.den, SX.IsU8, *]); (try omega))), ?_⟩
    intro a19 w19 hr19' _
    have hr19 := h18.unbase hr19'
    have hS19 := hS18.keep (by simpa [mutB] using hr19'.keeps.toBelow)
    have hKlt : ∀ x ∈ K, x < 0 := fun x hx => ((take_mem mm 0 x).1 (hK.mem_iff.1 hx)).1
    have hKlen : K.length = min mm 0 := by rw [hK.length_eq, take_len]
    refine post_call 15 [.ptr 0 c 0, .v (.int .i64 lba), .v (.int .i64 0)] hr19 (wanted_zero (hr19.env.same rfl rfl rfl rfl) rfl (by simp; exact fun q hq => hq.2 fun _ => by split <;> omega)) rfl (callable 15 Try.func15) (drop_okS _ w19 c _ _ _ _ hS19 lba 0 (by omega) (fun x hx => by
      obtain ⟨z, hz, rfl⟩ := List.mem_map.1 hx
      have := hKlt z hz
      simp only [fIt2]
      omega) (by rw [List.length_map]; omega)) ?_
    rintro e w20 ⟨he20, hk20, hS20⟩
    have hcnt : ((K.map (fIt2 lba ver)).filter fun x => goesB lba 0 x.lba).length = min mm 0 := (goes_all hKlt).trans hKlen
    rw [hcnt] at he20
    subst he20
    refine ⟨_, rfl, ?_⟩
    have h20 := hr19.retC hk20 (fun _ h => h) 123 (.v (.int .i64 ((min mm 0 : Nat) : Int))) rfl [] trivial (by simp) rfl
    refine seg cfg5_ok mixed PanicFree.body 1000 [] [(103, true), (110, true), (119, true)] h20 (by first | trivial | exact HpRep.nil | assumption) (by kernel_rfl) fun s_ hs_ => ?_
    simp [SX.vc, SX.stop, SX.contS, SX.contB, SX.contW, SX.contR, SX.contD, SX.sxStep, SX.stepPure, SX.stepNew, SX.stepStore, SX.stepKeep, SX.guardIx, SX.evOp, SX.opd, SX.opds, SX.optOpd, SX.look, SX.putS, SX.gobs, SX.AllP, SX.leave, SX.lookC, SX.lookB, SX.lookT, SX.lookN, SX.findK, SX.evBuiltin, SX.ints, SX.foldI, SX.evBin, SX.evInt, SX.evStr, SX.evEq, SX.arith, SX.evLoad, SX.shapeUp, SX.evFieldAddr, SX.evField, SX.evIndexAddr, SX.evIndex, SX.evFill, SX.evBuild, SX.szs, SX.cellsV, SX.evNew, SX.evStore, SX.spliceL, SX.SV.cells, SX.evConv, SX.evSlice, SX.bnd, SX.evNil, SX.evUn, SX.evPick, SX.pickOpd, SX.popTo, SX.cnd, SX.env0, SX.TD.isAgg, SX.TD.isIface, SX.tails, SX.NotAgg, SX.evLookup, SX.evConvH, SX.evPtrEq, SX.isCells, Go.Value.cells, cfg5]
    refine ⟨by (unfold SX.Ob; first | trivial | omega | ((try simp only [SX.inK]); (try simp [SX.den, SX.IsU8, *]); (try omega))), ?_⟩
    intro a21 w21 hr21 _
    exact post_retn (end1 hr21 rfl rfl ⟨by simp [den] <;> omega, hr21.keeps.toBelow⟩).1
  · refine seg cfg5_ok mixed PanicFree.body 1000 [false] [] hr6.rebase (by first | trivial | exact HpRep.nil | assumption) (by kernel_rfl) fun s_ hs_ => ?_
    simp [SX.vc, SX.stop, SX.contS, SX.contB, SX.contW, SX.contR, SX.contD, SX.sxStep, SX.stepPure, SX.stepNew, SX.stepStore, SX.stepKeep, SX.guardIx, SX.evOp, SX.opd, SX.opds, SX.optOpd, SX.look, SX.putS, SX.gobs, SX.AllP, SX.leave, SX.lookC, SX.lookB, SX.lookT, SX.lookN, SX.findK, SX.evBuiltin, SX.ints, SX.foldI, SX.evBin, SX.evInt, SX.evStr, SX.evEq, SX.arith, SX.evLoad, SX.shapeUp, SX.evFieldAddr, SX.evField, SX.evIndexAddr, SX.evIndex, SX.evFill, SX.evBuild, SX.szs, SX.cellsV, SX.evNew, SX.evStore, SX.spliceL, SX.SV.cells, SX.evConv, SX.evSlice, SX.bnd, SX.evNil, SX.evUn, SX.evPick, SX.pickOpd, SX.popTo, SX.cnd, SX.env0, SX.TD.isAgg, SX.TD.isIface, SX.tails, SX.NotAgg, SX.evLookup, SX.evConvH, SX.evPtrEq, SX.isCells, Go.Value.cells, cfg5]
    refine ⟨by (unfold SX.Ob; first | trivial | omega | ((try simp only [SX.inK]); (try simp [SX.den, SX.IsU8, *]); (try omega))), ?_⟩
    intro a7 w7 hr7' _
    have hr7 := hr6.unbase hr7'
    have hA7 := hr7.all
    have hz7 : w6.heap.size ≤ w7.heap.size := hr7'.keeps.size
    have hbl : b < w6.heap.size := SO.rep_lt hr6.all.1.1
    have hsame : ∀ x, x < w6.heap.size → x ≠ b → w7.heap[x]? = w6.heap[x]? := fun x h1 h2 => hr7'.old h1 (by simp [mutB]; exact h2)
    have hS7 := hS6.keep_nil (w' := w7) fun x hx => hsame x (by omega) (by omega)
    have hS7' : CS (fun x => w.heap.size ≤ x ∧ (x < n0 ∨ w7.heap.size ≤ x)) w7 c mm 0 0 [] := hS7.mono fun x _ h => ⟨h.1, .inl h.2⟩
    have hB7 : ∀ j, j < k → Blk w7 (T j) 16 (tx j) ∧ ¬ (w.heap.size ≤ T j ∧ (T j < n0 ∨ w7.heap.size ≤ T j)) := fun j hj => by
      obtain ⟨h1, u2, hu2⟩ := hB6 j hj
      have h3 := SO.rep_lt hu2
      exact ⟨⟨u2, SO.rep_same hu2 (hsame _ h3 (hTb j hj))⟩, by omega⟩
    have harr : SO.rep w7 b (.arr 0 k (fun j => [.v (.slice (some ⟨T j, 0, none⟩) 16 16)]) 1 u (0, 0)) := rep_arr_sub hA7.1.1 (by omega) fun j hj => by rw [hrow j hj]
    refine post_call 16 [.ptr 0 c 0, .v (.int .i64 lba), .v (.int .i64 ver), .sl 0 b 0 0 k cap 1] hr7 (wanted_none rfl) rfl (callable 16 Try.func16)
      (fill_ok _ w7 c _ _ _ _ hS7' (fun x hx => ⟨by omega, .inr hx⟩) lba ver (by omega) (by omega) (fun j => tx j) T (fun _ => 16) k b cap k u (by omega) harr (Nat.le_refl _) hB7 (by omega)) ?_
    rintro e w8 ⟨rfl, hk8, hS8⟩
    refine ⟨_, rfl, ?_⟩
    have h12 := hr7.retC hk8 (fun _ h => h.1) 54 (.v (.int .i64 0)) rfl [] trivial (by simp) rfl
    rw [fill_take] at hS8
    have hS12 : CS (fun x => w.heap.size ≤ x) w8 c mm 0 0 (((downN k).take mm).map (fIt2 lba ver)) := hS8.mono fun x _ h => h.1
    have hlenA : (((downN k).take mm).map (fIt2 lba ver)).length = min mm k := by rw [List.length_map, take_len]
    refine seg cfg5_ok mixed PanicFree.body 1000 [] [(56, false)] h12.rebase (by first | trivial | exact HpRep.nil | assumption) (by kernel_rfl) fun s_ hs_ => ?_
    simp [SX.vc, SX.stop, SX.contS, SX.contB, SX.contW, SX.contR, SX.contD, SX.sxStep, SX.stepPure, SX.stepNew, SX.stepStore, SX.stepKeep, SX.guardIx, SX.evOp, SX.opd, SX.opds, SX.optOpd, SX.look, SX.putS, SX.gobs, SX.AllP, SX.leave, SX.lookC, SX.lookB, SX.lookT, SX.lookN, SX.findK, SX.evBuiltin, SX.ints, SX.foldI, SX.evBin, SX.evInt, SX.evStr, SX.evEq, SX.arith, SX.evLoad, SX.shapeUp, SX.evFieldAddr, SX.evField, SX.evIndexAddr, SX.evIndex, SX.evFill, SX.evBuild, SX.szs, SX.cellsV, SX.evNew, SX.evStore, SX.spliceL, SX.SV.cells, SX.evConv, SX.evSlice, SX.bnd, SX.evNil, SX.evUn, SX.evPick, SX.pickOpd, SX.popTo, SX.cnd, SX.env0, SX.TD.isAgg, SX.TD.isIface, SX.tails, SX.NotAgg, SX.evLookup, SX.evConvH, SX.evPtrEq, SX.isCells, Go.Value.cells, cfg5]
    refine ⟨by (unfold SX.Ob; first | trivial | omega | ((try simp only [SX.inK]); (try simp [SX.den, SX.IsU8, *]); (try omega))), ?_⟩
    intro a13 w13 hr13' _
    have hr13 := h12.unbase hr13'
    have hS13 := hS12.keep (by simpa [mutB] using hr13'.keeps.toBelow)
    refine post_call 12 [.ptr 0 c 0] hr13 (wanted_zero (hr13.env.same rfl rfl rfl rfl) rfl (by simp)) rfl (callable 12 Try.func12) (keys_okS _ w13 c _ _ _ _ hS13 (by omega)) ?_
    rintro e w14 ⟨sx, H, hsx, rfl, hH, hb14⟩
    refine ⟨_, rfl, ?_⟩
    obtain ⟨ad, cp, hden⟩ := key_den hsx
    rw [hlenA] at hden
    have h14 := hr13.ret hb14 58 (.v (.slice ad (min mm k) cp)) hden [] trivial (by simp) rfl
    have hS14 := hS13.keep hb14
    refine seg cfg5_ok mixed PanicFree.body 1000 [false] [(56, false)] h14.rebase (by first | trivial | exact HpRep.nil | assumption) (by kernel_rfl) fun s_ hs_ => ?_
    simp [SX.vc, SX.stop, SX.contS, SX.contB, SX.contW, SX.contR, SX.contD, SX.sxStep, SX.stepPure, SX.stepNew, SX.stepStore, SX.stepKeep, SX.guardIx, SX.evOp, SX.opd, SX.opds, SX.optOpd, SX.look, SX.putS, SX.gobs, SX.AllP, SX.leave, SX.lookC, SX.lookB, SX.lookT, SX.lookN, SX.findK, SX.evBuiltin, SX.ints, SX.foldI, SX.evBin, SX.evInt, SX.evStr, SX.evEq, SX.arith, SX.evLoad, SX.shapeUp, SX.evFieldAddr, SX.evField, SX.evIndexAddr, SX.evIndex, SX.evFill, SX.evBuild, SX.szs, SX.cellsV, SX.evNew, SX.evStore, SX.spliceL, SX.SV.cells, SX.evConv, SX.evSlice, SX.bnd, SX.evNil, SX.evUn, SX.evPick, SX.pickOpd, SX.popTo, SX.cnd, SX.env0, SX.TD.isAgg, SX.TD.isIface, SX.tails, SX.NotAgg, SX.evLookup, SX.evConvH, SX.evPtrEq, SX.isCells, Go.Value.cells, cfg5]
    refine ⟨by (unfold SX.Ob; first | trivial | omega | ((try simp only [SX.inK]); (try simp [SX.den, SX.IsU8, *]); (try omega))), ?_⟩
    intro a15 w15 hr15' _
    have hr15 := h14.unbase hr15'
    have hS15 := hS14.keep (by simpa [mutB] using hr15'.keeps.toBelow)
    refine post_loop (FillsGet w c mm k lba ver) k ⟨0, _, rfl, by omega, .refl _, by simpa using hS15, hr15.re (by simp [envTo, SX.look]) trivial rfl rfl⟩ ?_
    clear hr6 hr7 hr7' hS6 hS7 hS7' hB6 hB7 harr hsame hA7 hS8 h12 hr13 hr13' h14 hr15 hr15' hS12 hS13 hS14 hS15 hlenA hsx hH hden
    rintro d a16 w16 ⟨p, K, rfl, hp, hK, hS16, hr16⟩
    by_cases hlt : p < k
    · refine seg cfg5_ok mixed PanicFree.body 1000 [true] [] hr16.rebase (by first | trivial | exact HpRep.nil | assumption) (by kernel_rfl) fun s_ hs_ => ?_
      simp [SX.vc, SX.stop, SX.contS, SX.contB, SX.contW, SX.contR, SX.contD, SX.sxStep, SX.stepPure, SX.stepNew, SX.stepStore, SX.stepKeep, SX.guardIx, SX.evOp, SX.opd, SX.opds, SX.optOpd, SX.look, SX.putS, SX.gobs, SX.AllP, SX.leave, SX.lookC, SX.lookB, SX.lookT, SX.lookN, SX.findK, SX.evBuiltin, SX.ints, SX.foldI, SX.evBin, SX.evInt, SX.evStr, SX.evEq, SX.arith, SX.evLoad, SX.shapeUp, SX.evFieldAddr, SX.evField, SX.evIndexAddr, SX.evIndex, SX.evFill, SX.evBuild, SX.szs, SX.cellsV, SX.evNew, SX.evStore, SX.spliceL, SX.SV.cells, SX.evConv, SX.evSlice, SX.bnd, SX.evNil, SX.evUn, SX.evPick, SX.pickOpd, SX.popTo, SX.cnd, SX.env0, SX.TD.isAgg, SX.TD.isIface, SX.tails, SX.NotAgg, SX.evLookup, SX.evConvH, SX.evPtrEq, SX.isCells, Go.Value.cells, cfg5]
      refine ⟨by (unfold SX.Ob; first | trivial | omega | ((try simp only [SX.inK]); (try simp [SX.den, SX.IsU8, *]); (try omega))), ?_⟩
      intro a17 w17 hr17' _
      have hr17 := hr16.unbase hr17'
      have hS17 := hS16.keep (by simpa [mutB] using hr17'.keeps.toBelow)
      have hmem : p ∈ K ↔ k ≤ p + mm := by rw [hK.mem_iff, take_mem]; omega
      refine post_call 10 [.ptr 0 c 0, .v (.int .i64 (lba + p)), .v (.int .i64 ver)] hr17 (wanted_none rfl) rfl (callable 10 Try.func10) (get_okS _ w17 c _ _ _ _ hS17 (lba + p) ver (by unfold inK; omega) (by unfold inK; omega)) ?_
      rintro e w18 ⟨hk18, hcase⟩
      by_cases hin : k ≤ p + mm
      · have hpk := hmem.2 hin
        have hfd : findL (lba + p) (K.map (fIt2 lba ver)) = some (fIt2 lba ver p) := by rw [findL_map2, if_pos hpk]
        rcases hcase with ⟨x, b', cap', hf, hvx, rfl, hsz, ⟨u, hB18⟩, hS18⟩ | ⟨hno, _⟩
        rotate_left
        · exact absurd rfl (hno _ hfd)
        obtain rfl : fIt2 lba ver p = x := by rw [hfd] at hf; simpa using hf
        refine ⟨_, rfl, ?_⟩
        have h18 := hr17.retC hk18 (fun _ h => h) 75 (.tu [.sl 0 b' 0 0 16 cap' 1, .v (.bool true)]) rfl [(b', false, .arr 0 16 (fun j => [.v (.int .u8 (tx p j))]) 1 u (0, 0))] ⟨⟨hB18, by simp, by simp⟩, trivial⟩ (by simp) rfl
        have hS18 := hS18.mono fun x _ h => h.1
        rw [othersL_map2, ← List.map_cons] at hS18
        refine seg cfg5_ok mixed PanicFree.body 1000 [] [(85, false), (87, true)] h18.rebase (by first | trivial | exact HpRep.nil | assumption) (by kernel_rfl) fun s_ hs_ => ?_
        simp [SX.vc, SX.stop, SX.contS, SX.contB, SX.contW, SX.contR, SX.contD, SX.sxStep, SX.stepPure, SX.stepNew, SX.stepStore, SX.stepKeep, SX.guardIx, SX.evOp, SX.opd, SX.opds, SX.optOpd, SX.look, SX.putS, SX.gobs, SX.AllP, SX.leave, SX.lookC, SX.lookB, SX.lookT, SX.lookN, SX.findK, SX.evBuiltin, SX.ints, SX.foldI, SX.evBin, SX.evInt, SX.evStr, SX.evEq, SX.arith, SX.evLoad, SX.shapeUp, SX.evFieldAddr, SX.evField, SX.evIndexAddr, SX.evIndex, SX.evFill, SX.evBuild, SX.szs, SX.cellsV, SX.evNew, SX.evStore, SX.spliceL, SX.SV.cells, SX.evConv, SX.evSlice, SX.bnd, SX.evNil, SX.evUn, SX.evPick, SX.pickOpd, SX.popTo, SX.cnd, SX.env0, SX.TD.isAgg, SX.TD.isIface, SX.tails, SX.NotAgg, SX.evLookup, SX.evConvH, SX.evPtrEq, SX.isCells, Go.Value.cells, cfg5]
        refine ⟨by (unfold SX.Ob; first | trivial | omega | ((try simp only [SX.inK]); (try simp [SX.den, SX.IsU8, *]); (try omega))), ?_⟩
        intro a19 w19 hr19' ht19
        have hr19 := h18.unbase hr19'
        have hS19 := hS18.keep (by simpa [mutB] using hr19'.keeps.toBelow)
        refine post_callD 9 [.v (.int .i64 p)] hr19 rfl (wanted_zero (hr19.env.same rfl rfl rfl rfl) rfl (by simp)) rfl (callable 9 Try.func9) (text_ok w19 p (by unfold inK; omega)) ?_
        rintro e w20 ⟨tb, rfl, htb, hB20, hb20⟩
        have ht20 := HpRep_below ht19 hb20
        refine ⟨_, rfl, ht20, ?_⟩
        have hA19 := hr19.all
        have h20 := hr19.ret hb20 91 (.sl 1 tb 0 0 16 16 1) rfl [(b', false, .arr 0 16 (fun j => [.v (.int .u8 (tx p j))]) 1 u (0, 0)), (tb, false, .arr 0 16 (fun j => [.v (.int .u8 (tx p j))]) 1 5 (0, 0))] (HpAll.append (hr19.all.below hb20) hB20 (by simp) (by
          intro e he
          simp at he
          subst he
          have := SO.rep_lt hA19.1.1
          simp only
          omega)) (by simp) rfl
        have hS20 := hS19.keep hb20
        refine seg cfg5_ok mixed PanicFree.body 1000 [false] [(85, false), (87, true)] h20.rebase (by first | trivial | exact HpRep.nil | assumption) (by kernel_rfl) fun s_ hs_ => ?_
        simp [SX.vc, SX.stop, SX.contS, SX.contB, SX.contW, SX.contR, SX.contD, SX.sxStep, SX.stepPure, SX.stepNew, SX.stepStore, SX.stepKeep, SX.guardIx, SX.evOp, SX.opd, SX.opds, SX.optOpd, SX.look, SX.putS, SX.gobs, SX.AllP, SX.leave, SX.lookC, SX.lookB, SX.lookT, SX.lookN, SX.findK, SX.evBuiltin, SX.ints, SX.foldI, SX.evBin, SX.evInt, SX.evStr, SX.evEq, SX.arith, SX.evLoad, SX.shapeUp, SX.evFieldAddr, SX.evField, SX.evIndexAddr, SX.evIndex, SX.evFill, SX.evBuild, SX.szs, SX.cellsV, SX.evNew, SX.evStore, SX.spliceL, SX.SV.cells, SX.evConv, SX.evSlice, SX.bnd, SX.evNil, SX.evUn, SX.evPick, SX.pickOpd, SX.popTo, SX.cnd, SX.env0, SX.TD.isAgg, SX.TD.isIface, SX.tails, SX.NotAgg, SX.evLookup, SX.evConvH, SX.evPtrEq, SX.isCells, Go.Value.cells, cfg5]
        refine ⟨by (unfold SX.Ob; first | trivial | omega | ((try simp only [SX.inK]); (try simp [SX.den, SX.IsU8, *]); (try omega))), ?_⟩
        intro a21 w21 hr21' _
        have hr21 := h20.unbase hr21'
        have hS21 := hS20.keep (by simpa [mutB] using hr21'.keeps.toBelow)
        have e1 : (((p - (k - mm) : Nat) : Int) + 1) = ((p + 1 - (k - mm) : Nat) : Int) := by omega
        have e2 : ((min p (k - mm) : Nat) : Int) = ((min (p + 1) (k - mm) : Nat) : Int) := by omega
        rw [e1, e2] at hS21
        exact post_rnd (k - (p + 1)) (by omega) ⟨p + 1, _, rfl, hlt, perm_front hK (take_nodup k mm) hpk, hS21, hr21.re (by simp [envTo, SX.look, den]) trivial rfl rfl⟩
      · have hfd : findL (lba + p) (K.map (fIt2 lba ver)) = none := by rw [findL_map2, if_neg fun h => hin (hmem.1 h)]
        rcases hcase with ⟨x, b', cap', hf, _⟩ | ⟨hno, rfl, hS18⟩
        · rw [hfd] at hf; cases hf
        refine ⟨_, rfl, ?_⟩
        have h18 := hr17.retC hk18 (fun _ h => h) 75 (.tu [.v (.slice none 0 0), .v (.bool false)]) rfl [] trivial (by simp) rfl
        refine seg cfg5_ok mixed PanicFree.body 1000 [false] [(85, false), (87, false)] h18.rebase (by first | trivial | exact HpRep.nil | assumption) (by kernel_rfl) fun s_ hs_ => ?_
        simp [SX.vc, SX.stop, SX.contS, SX.contB, SX.contW, SX.contR, SX.contD, SX.sxStep, SX.stepPure, SX.stepNew, SX.stepStore, SX.stepKeep, SX.guardIx, SX.evOp, SX.opd, SX.opds, SX.optOpd, SX.look, SX.putS, SX.gobs, SX.AllP, SX.leave, SX.lookC, SX.lookB, SX.lookT, SX.lookN, SX.findK, SX.evBuiltin, SX.ints, SX.foldI, SX.evBin, SX.evInt, SX.evStr, SX.evEq, SX.arith, SX.evLoad, SX.shapeUp, SX.evFieldAddr, SX.evField, SX.evIndexAddr, SX.evIndex, SX.evFill, SX.evBuild, SX.szs, SX.cellsV, SX.evNew, SX.evStore, SX.spliceL, SX.SV.cells, SX.evConv, SX.evSlice, SX.bnd, SX.evNil, SX.evUn, SX.evPick, SX.pickOpd, SX.popTo, SX.cnd, SX.env0, SX.TD.isAgg, SX.TD.isIface, SX.tails, SX.NotAgg, SX.evLookup, SX.evConvH, SX.evPtrEq, SX.isCells, Go.Value.cells, cfg5]
        refine ⟨by (unfold SX.Ob; first | trivial | omega | ((try simp only [SX.inK]); (try simp [SX.den, SX.IsU8, *]); (try omega))), ?_⟩
        intro a21 w21 hr21' _
        have hr21 := h18.unbase hr21'
        have hS21 := hS18.keep (by simpa [mutB] using hr21'.keeps.toBelow)
        have e1 : ((p - (k - mm) : Nat) : Int) = ((p + 1 - (k - mm) : Nat) : Int) := by omega
        have e2 : (((min p (k - mm) : Nat) : Int) + 1) = ((min (p + 1) (k - mm) : Nat) : Int) := by omega
        rw [e1, e2] at hS21
        exact post_rnd (k - (p + 1)) (by omega) ⟨p + 1, _, rfl, hlt, hK, hS21, hr21.re (by simp [envTo, SX.look, den]) trivial rfl rfl⟩
    obtain rfl : p = k := by omega
    refine seg cfg5_ok mixed PanicFree.body 1000 [false] [] hr16.rebase (by first | trivial | exact HpRep.nil | assumption) (by kernel_rfl) fun s_ hs_ => ?_
    simp [SX.vc, SX.stop, SX.contS, SX.contB, SX.contW, SX.contR, SX.contD, SX.sxStep, SX.stepPure, SX.stepNew, SX.stepStore, SX.stepKeep, SX.guardIx, SX.evOp, SX.opd, SX.opds, SX.optOpd, SX.look, SX.putS, SX.gobs, SX.AllP, SX.leave, SX.lookC, SX.lookB, SX.lookT, SX.lookN, SX.findK, SX.evBuiltin, SX.ints, SX.foldI, SX.evBin, SX.evInt, SX.evStr, SX.evEq, SX.arith, SX.evLoad, SX.shapeUp, SX.evFieldAddr, SX.evField, SX.evIndexAddr, SX.evIndex, SX.evFill, SX.evBuild, SX.szs, SX.cellsV, SX.evNew, SX.evStore, SX.spliceL, SX.SV.cells, SX.evConv, SX.evSlice, SX.bnd, SX.evNil, SX.evUn, SX.evPick, SX.pickOpd, SX.popTo, SX.cnd, SX.env0, SX.TD.isAgg, SX.TD.isIface, SX.tails, SX.NotAgg, SX.evLookup, SX.evConvH, SX.evPtrEq, SX.isCells, Go.Value.cells, cfg5]
    refine ⟨by (unfold SX.Ob; first | trivial | omega | ((try simp only [SX.inK]); (try simp [SX.den, SX.IsU8, *]); (try omega))), ?_⟩
    intro a17 w17 hr17' _
    have hr17 := hr16.unbase hr17'
    have hS17 := hS16.keep (by simpa [mutB] using hr17'.keeps.toBelow)
    refine post_call 11 [.ptr 0 c 0] hr17 (wanted_none rfl) rfl (callable 11 Try.func11) (hits_okS _ w17 c _ _ _ _ hS17) ?_
    rintro e w18 ⟨rfl, hb18⟩
    refine ⟨_, rfl, ?_⟩
    have hS18 := hS17.keep hb18
    have h18 := hr17.ret hb18 99 (.tu [.v (.int .i64 ((p - (p - mm) : Nat) : Int)), .v (.int .i64 ((min p (p - mm) : Nat) : Int))]) rfl [] trivial (by simp) rfl
    refine seg cfg5_ok mixed PanicFree.body 1000 [] [(103, true), (110, true), (119, true)] h18.rebase (by first | trivial | exact HpRep.nil | assumption) (by kernel_rfl) fun s_ hs_ => ?_
    simp [SX.vc, SX.stop, SX.contS, SX.contB, SX.contW, SX.contR, SX.contD, SX.sxStep, SX.stepPure, SX.stepNew, SX.stepStore, SX.stepKeep, SX.guardIx, SX.evOp, SX.opd, SX.opds, SX.optOpd, SX.look, SX.putS, SX.gobs, SX.AllP, SX.leave, SX.lookC, SX.lookB, SX.lookT, SX.lookN, SX.findK, SX.evBuiltin, SX.ints, SX.foldI, SX.evBin, SX.evInt, SX.evStr, SX.evEq, SX.arith, SX.evLoad, SX.shapeUp, SX.evFieldAddr, SX.evField, SX.evIndexAddr, SX.evIndex, SX.evFill, SX.evBuild, SX.szs, SX.cellsV, SX.evNew, SX.evStore, SX.spliceL, SX.SV.cells, SX.evConv, SX.evSlice, SX.bnd, SX.evNil, SX.evUn, SX.evPick, SX.pickOpd, SX.popTo, SX.cnd, SX.env0, SX.TD.isAgg, SX.TD.isIface, SX.tails, SX.NotAgg, SX.evLookup, SX.evConvH, SX.evPtrEq, SX.isCells, Go.Value.cells, cfg5]
    refine ⟨by (unfold SX.Ob; first | trivial | omega | ((try simp only [SX.inK]); (try simp [SX.den, SX.IsU8, *]); (try omega))), ?_⟩
    intro a19 w19 hr19' _
    have hr19 := h18.unbase hr19'
    have hS19 := hS18.keep (by simpa [mutB] using hr19'.keeps.toBelow)
    have hKlt : ∀ x ∈ K, x < p := fun x hx => ((take_mem mm p x).1 (hK.mem_iff.1 hx)).1
    have hKlen : K.length = min mm p := by rw [hK.length_eq, take_len]
    refine post_call 15 [.ptr 0 c 0, .v (.int .i64 lba), .v (.int .i64 p)] hr19 (wanted_zero (hr19.env.same rfl rfl rfl rfl) rfl (by simp; exact fun q hq => hq.2 fun _ => by split <;> omega)) rfl (callable 15 Try.func15) (drop_okS _ w19 c _ _ _ _ hS19 lba p (by omega) (fun x hx => by
      obtain ⟨z, hz, rfl⟩ := List.mem_map.1 hx
      have := hKlt z hz
      simp only [fIt2]
      omega) (by rw [List.length_map]; omega)) ?_
    rintro e w20 ⟨he20, hk20, hS20⟩
    have hcnt : ((K.map (fIt2 lba ver)).filter fun x => goesB lba (p : Int) x.lba).length = min mm p := (goes_all hKlt).trans hKlen
    rw [hcnt] at he20
    subst he20
    refine ⟨_, rfl, ?_⟩
    have h20 := hr19.retC hk20 (fun _ h => h) 123 (.v (.int .i64 ((min mm p : Nat) : Int))) rfl [] trivial (by simp) rfl
    refine seg cfg5_ok mixed PanicFree.body 1000 [] [(103, true), (110, true), (119, true)] h20 (by first | trivial | exact HpRep.nil | assumption) (by kernel_rfl) fun s_ hs_ => ?_
    simp [SX.vc, SX.stop, SX.contS, SX.contB, SX.contW, SX.contR, SX.contD, SX.sxStep, SX.stepPure, SX.stepNew, SX.stepStore, SX.stepKeep, SX.guardIx, SX.evOp, SX.opd, SX.opds, SX.optOpd, SX.look, SX.putS, SX.gobs, SX.AllP, SX.leave, SX.lookC, SX.lookB, SX.lookT, SX.lookN, SX.findK, SX.evBuiltin, SX.ints, SX.foldI, SX.evBin, SX.evInt, SX.evStr, SX.evEq, SX.arith, SX.evLoad, SX.shapeUp, SX.evFieldAddr, SX.evField, SX.evIndexAddr, SX.evIndex, SX.evFill, SX.evBuild, SX.szs, SX.cellsV, SX.evNew, SX.evStore, SX.spliceL, SX.SV.cells, SX.evConv, SX.evSlice, SX.bnd, SX.evNil, SX.evUn, SX.evPick, SX.pickOpd, SX.popTo, SX.cnd, SX.env0, SX.TD.isAgg, SX.TD.isIface, SX.tails, SX.NotAgg, SX.evLookup, SX.evConvH, SX.evPtrEq, SX.isCells, Go.Value.cells, cfg5]
    refine ⟨by (unfold SX.Ob; first | trivial | omega | ((try simp only [SX.inK]); (try simp [SX.den, SX.IsU8, *]); (try omega))), ?_⟩
    intro a21 w21 hr21 _
    exact post_retn (end1 hr21 rfl rfl ⟨by simp [den] <;> omega, hr21.keeps.toBelow⟩).1
end Go.Proofs
