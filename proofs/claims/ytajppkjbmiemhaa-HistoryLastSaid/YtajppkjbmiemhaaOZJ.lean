/- Histories: Blocks. -/
import Derived.Test.YtajppkjbmiemhaaOZI
import Derived.Test.YtajppkjbmiemhaaOM
import Derived.Test.YtajppkjbmiemhaaOR
import Derived.Test.YtajppkjbmiemhaaSxO
namespace Go.Proofs
set_option linter.unusedVariables false
set_option linter.unusedSimpArgs false
set_option linter.unusedSectionVars false
open Go Go.SX Go.RowKit Go.Hist

theorem callable (n : Nat) {fn : Func} (h : Try.prog.funcs[n]? = some fn) (h2 : (fn.name == "runtime.NumGoroutine") = false := by kernel_rfl) (h3 : fn.body.isNone = false := by kernel_rfl) : Callable Try.prog n := ⟨fn, h, h2, h3⟩
abbrev RdH := RdS evRow 5 zeroEv
abbrev OwH := OwS evRow 5 zeroEv
def mB (L : List HEv) (k : Nat) : Int → Option SV := fun x => if x ∈ (L.take k).map HEv.lba then some (.v (.bool true)) else none
theorem mB_up {L : List HEv} {k : Nat} {x : HEv} (h : k < L.length) (hx : nth zeroEv L k = x) : updFn (mB L k) x.lba (.v (.bool true)) = mB L (k + 1) := by
  funext y
  unfold updFn mB
  rw [take_nth (d := zeroEv) h, hx, List.map_append]
  by_cases hy : y = x.lba
  · subst hy; simp
  · simp [hy]
theorem wf_of_inK {x : Int} (h : inK x) : (Lit.int .i64 x).wf = true := by
  unfold inK at h
  simp [Lit.wf, IntKind.min, IntKind.max, IntKind.signed, IntKind.bits]
  omega
def BlkL (F : Fr) (L : List HEv) (vl : Value) (bm : Nat) (m : Nat) (a : Act) (w' : World) : Prop :=
  ∃ k : Nat, m = L.length - k ∧ k ≤ L.length ∧ RepX F ⟨[(9, 0, .v (.int .i64 k)), (8, 0, .v (.int .i64 L.length)), (7, 0, .v vl), (3, 0, .mp 0 bm)], [(bm, true, .imap (mB L k))], 0, 0, 20, [], [], []⟩ a w'
def BlocksR (w : World) (L : List HEv) (e : Ending) (w' : World) : Prop :=
  ∃ (v : Value) (K : List Int), e = .returned v ∧ RdS intR 1 (0 : Int) (fun x => w.heap.size ≤ x) w' v K ∧ K.Pairwise (fun x y => x < y) ∧ (∀ x, x ∈ K ↔ ∃ e ∈ L, e.lba = x) ∧ Below w.heap.size w w'

set_option maxRecDepth 100000 in
set_option maxHeartbeats 32000000 in
/-- Blocks. -/
theorem blocks_ok (w : World) (v : Value) (L : List HEv) (hL : RdH (fun x => x < w.heap.size) w v L) (hn : L.length ≤ 1000) (hI : ∀ x ∈ L, InEv x) : Calls Try.prog 12 (denL [.v v]).toArray w (BlocksR w L) := by
  obtain ⟨ad, cp, rfl⟩ := hL.slice
  refine enter (F := frame0 w) Try.func12 rfl [.v (.slice ad L.length cp)] [] (by simp [Try.f12]) trivial (keeps0 w) fun a hr => ?_
  refine seg cfg12_ok mixed PanicFree.body 1000 [] [] hr (by first | trivial | exact HpRep.nil | assumption) (by kernel_rfl) fun bm hbm => ?_
  simp (maxSteps := 10000000) [SX.vc, SX.stop, SX.contS, SX.contB, SX.contW, SX.contR, SX.contD, SX.sxStep, SX.stepPure, SX.stepNew, SX.stepStore, SX.stepKeep, SX.guardIx, SX.evOp, SX.opd, SX.opds, SX.optOpd, SX.look, SX.putS, SX.gobs, SX.AllP, SX.leave, SX.lookC, SX.lookB, SX.lookT, SX.lookN, SX.findK, SX.evBuiltin, SX.ints, SX.foldI, SX.evBin, SX.evInt, SX.evStr, SX.evEq, SX.arith, SX.evLoad, SX.shapeUp, SX.evFieldAddr, SX.evField, SX.evIndexAddr, SX.evIndex, SX.evFill, SX.evBuild, SX.szs, SX.cellsV, SX.evNew, SX.evStore, SX.spliceL, SX.SV.cells, SX.evConv, SX.evSlice, SX.bnd, SX.evNil, SX.evUn, SX.evPick, SX.pickOpd, SX.popTo, SX.cnd, SX.env0, SX.TD.isAgg, SX.TD.isIface, SX.tails, SX.NotAgg, SX.evLookup, SX.evConvH, SX.evPtrEq, SX.isCells, SX.thaw, SX.frz, SX.fixB, SX.rootIx, SX.Froz, SX.frzStep, SX.fork, Go.Value.cells, Go.undef, cfg12, Try.f12]
  refine ⟨by (unfold SX.Ob; first | trivial | omega | ((try simp only [SX.inK]); (try simp [SX.den, SX.IsU8, SX.AllP, *]); (try omega))), ?_⟩
  intro a1 w1 hr1 _
  refine post_loop (BlkL (frame0 w) L (.slice ad L.length cp) bm) L.length ⟨0, rfl, by omega, hr1.re (by simp [envTo, SX.look]) ⟨⟨by
    have h := hr1.all.1.1
    have e : (fun _ => none : Int → Option SV) = mB L 0 := by funext x; simp [mB]
    first | exact h | (rw [← e]; exact h), hr1.all.1.2.1, by simp⟩, trivial⟩ rfl rfl⟩ ?_
  clear hr hr1
  rintro m a2 w2 ⟨k, rfl, hk, hr2⟩
  have hA2 := hr2.all
  have hL2 := hL.below hr2.keeps.toBelow
  have hbm : w.heap.size ≤ bm := by
    rcases hA2.1.2.1 rfl with h | h
    · exact h
    · cases h
  by_cases hlt : k < L.length
  · have hlt' : (k : Int) < (L.length : Int) := by omega
    obtain ⟨b, o0, cap, u, fz, hP, hv, hrep⟩ := hL2.opn (by omega)
    obtain ⟨x, hx⟩ : ∃ x, nth zeroEv L k = x := ⟨_, rfl⟩
    obtain ⟨n, hnl⟩ : ∃ n, L.length = n := ⟨_, rfl⟩
    rw [hnl] at hv hrep hlt hlt' hr2 ⊢
    have hr3 := (hr2.top 7 (.sl 1 b o0 0 n cap 5) rfl (by simp [den, hv])).see [(bm, true, .imap (mB L k)), (b, false, .arr o0 n (fun j => evRow (nth zeroEv L j)) 5 u fz)] ⟨⟨hA2.1.1, hA2.1.2.1, by simp; omega⟩, ⟨hrep, by simp, by simp⟩, trivial⟩
    refine seg cfg12_ok mixed PanicFree.body 1000 [true] [] hr3 (by first | trivial | exact HpRep.nil | assumption) (by kernel_rfl) fun s_ hs_ => ?_
    simp (maxSteps := 10000000) [SX.vc, SX.stop, SX.contS, SX.contB, SX.contW, SX.contR, SX.contD, SX.sxStep, SX.stepPure, SX.stepNew, SX.stepStore, SX.stepKeep, SX.guardIx, SX.evOp, SX.opd, SX.opds, SX.optOpd, SX.look, SX.putS, SX.gobs, SX.AllP, SX.leave, SX.lookC, SX.lookB, SX.lookT, SX.lookN, SX.findK, SX.evBuiltin, SX.ints, SX.foldI, SX.evBin, SX.evInt, SX.evStr, SX.evEq, SX.arith, SX.evLoad, SX.shapeUp, SX.evFieldAddr, SX.evField, SX.evIndexAddr, SX.evIndex, SX.evFill, SX.evBuild, SX.szs, SX.cellsV, SX.evNew, SX.evStore, SX.spliceL, SX.SV.cells, SX.evConv, SX.evSlice, SX.bnd, SX.evNil, SX.evUn, SX.evPick, SX.pickOpd, SX.popTo, SX.cnd, SX.env0, SX.TD.isAgg, SX.TD.isIface, SX.tails, SX.NotAgg, SX.evLookup, SX.evConvH, SX.evPtrEq, SX.isCells, SX.thaw, SX.frz, SX.fixB, SX.rootIx, SX.Froz, SX.frzStep, SX.fork, Go.Value.cells, Go.undef, cfg12, hlt, hlt', hx, evRow]
    refine ⟨by (unfold SX.Ob; first | trivial | omega | ((try simp only [SX.inK]); (try simp [SX.den, SX.IsU8, SX.AllP, *]); (try omega))), ?_⟩
    intro a4 w4 hr4 _
    have hA4 := hr4.all
    have e : updFn (mB L k) x.lba (.v (.bool true)) = mB L (k + 1) := mB_up (by omega) hx
    rw [e] at hA4
    exact post_rnd (n - (k + 1)) (by omega) ⟨k + 1, by omega, by omega, hr4.re (by simp [envTo, SX.look, hnl, den, hv]) ⟨⟨hA4.1.1, hA4.1.2.1, by simp⟩, trivial⟩ rfl rfl⟩
  · have hlt' : ¬ (k : Int) < (L.length : Int) := by omega
    refine seg cfg12_ok mixed PanicFree.body 1000 [false] [] hr2 (by first | trivial | exact HpRep.nil | assumption) (by kernel_rfl) fun s_ hs_ => ?_
    simp (maxSteps := 10000000) [SX.vc, SX.stop, SX.contS, SX.contB, SX.contW, SX.contR, SX.contD, SX.sxStep, SX.stepPure, SX.stepNew, SX.stepStore, SX.stepKeep, SX.guardIx, SX.evOp, SX.opd, SX.opds, SX.optOpd, SX.look, SX.putS, SX.gobs, SX.AllP, SX.leave, SX.lookC, SX.lookB, SX.lookT, SX.lookN, SX.findK, SX.evBuiltin, SX.ints, SX.foldI, SX.evBin, SX.evInt, SX.evStr, SX.evEq, SX.arith, SX.evLoad, SX.shapeUp, SX.evFieldAddr, SX.evField, SX.evIndexAddr, SX.evIndex, SX.evFill, SX.evBuild, SX.szs, SX.cellsV, SX.evNew, SX.evStore, SX.spliceL, SX.SV.cells, SX.evConv, SX.evSlice, SX.bnd, SX.evNil, SX.evUn, SX.evPick, SX.pickOpd, SX.popTo, SX.cnd, SX.env0, SX.TD.isAgg, SX.TD.isIface, SX.tails, SX.NotAgg, SX.evLookup, SX.evConvH, SX.evPtrEq, SX.isCells, SX.thaw, SX.frz, SX.fixB, SX.rootIx, SX.Froz, SX.frzStep, SX.fork, Go.Value.cells, Go.undef, cfg12, hlt']
    refine ⟨by (unfold SX.Ob; first | trivial | omega | ((try simp only [SX.inK]); (try simp [SX.den, SX.IsU8, SX.AllP, *]); (try omega))), ?_⟩
    intro a3 w3 hr3 _
    obtain rfl : k = L.length := by omega
    refine post_call 20 [.mp 0 bm] hr3 (wanted_none rfl) rfl (callable 20 Try.func20) (keys_ok w3 0 bm) ?_
    rintro e4 w4 ⟨rfl, rfl⟩
    refine ⟨_, rfl, ?_⟩
    have hb4 : Below w3.heap.size w3 (w3.alloc (.cells #[.map (some bm)] 48)) := ⟨rfl, rfl, rfl, by show w3.heap.size ≤ (w3.heap.push _).size; simp, fun k hk => SX.heap_alloc_lt hk⟩
    have h4 := hr3.ret hb4 18 (.fn (.func 26) [] [.ptr 0 w3.heap.size 0]) rfl _ (hr3.all.below hb4) (by simp) rfl
    obtain ⟨es, clk, he, hm⟩ := h4.all.1.1
    refine post_call 19 [.fn (.func 26) [] [.ptr 0 w3.heap.size 0]] h4 (wanted_none rfl) rfl (callable 19 Try.func19) (sorted_ok _ 0 bm w3.heap.size clk es _ he hm (fun k x hk => ?_) (L.map HEv.lba) (by simp; omega) (fun k x hk => ?_) SX.heap_alloc_new) ?_
    · unfold mB at hk
      split at hk
      · rename_i h
        rw [List.take_length] at h
        obtain ⟨y, hy, rfl⟩ := List.mem_map.1 h
        exact wf_of_inK (hI y hy).2.1
      · cases hk
    · unfold mB at hk
      split at hk
      · rename_i h
        rwa [List.take_length] at h
      · cases hk
    rintro e5 w5 ⟨vk, K, rfl, hK, hpw, hmem, hb5⟩
    refine ⟨_, rfl, ?_⟩
    have h5 := (h4.ret hb5 19 (.v vk) rfl _ (h4.all.below hb5) (by simp) rfl).see [] trivial
    have z3 := hr3.keeps.size
    have z4 := hb4.size
    have hK5 := hK.mono (P' := fun x => w.heap.size ≤ x ∧ x < w5.heap.size) fun x h1 h2 => ⟨by have : w.heap.size ≤ w3.heap.size := z3; omega, h1⟩
    refine seg cfg12_ok mixed PanicFree.body 1000 [] [] h5.rebase (by first | trivial | exact HpRep.nil | assumption) (by kernel_rfl) fun s_ hs_ => ?_
    simp (maxSteps := 10000000) [SX.vc, SX.stop, SX.contS, SX.contB, SX.contW, SX.contR, SX.contD, SX.sxStep, SX.stepPure, SX.stepNew, SX.stepStore, SX.stepKeep, SX.guardIx, SX.evOp, SX.opd, SX.opds, SX.optOpd, SX.look, SX.putS, SX.gobs, SX.AllP, SX.leave, SX.lookC, SX.lookB, SX.lookT, SX.lookN, SX.findK, SX.evBuiltin, SX.ints, SX.foldI, SX.evBin, SX.evInt, SX.evStr, SX.evEq, SX.arith, SX.evLoad, SX.shapeUp, SX.evFieldAddr, SX.evField, SX.evIndexAddr, SX.evIndex, SX.evFill, SX.evBuild, SX.szs, SX.cellsV, SX.evNew, SX.evStore, SX.spliceL, SX.SV.cells, SX.evConv, SX.evSlice, SX.bnd, SX.evNil, SX.evUn, SX.evPick, SX.pickOpd, SX.popTo, SX.cnd, SX.env0, SX.TD.isAgg, SX.TD.isIface, SX.tails, SX.NotAgg, SX.evLookup, SX.evConvH, SX.evPtrEq, SX.isCells, SX.thaw, SX.frz, SX.fixB, SX.rootIx, SX.Froz, SX.frzStep, SX.fork, Go.Value.cells, Go.undef, cfg12]
    refine ⟨by (unfold SX.Ob; first | trivial | omega | ((try simp only [SX.inK]); (try simp [SX.den, SX.IsU8, SX.AllP, *]); (try omega))), ?_⟩
    intro a6 w6 hr6' _
    have hr6 := h5.unbase hr6'
    have hK6 := hK5.keep hr6'.keeps (by simp [frameAt, mutB])
    refine post_retn (end1 hr6 rfl rfl ⟨vk, K, rfl, hK6.mono fun x h1 h2 => h2.1, hpw, fun x => ?_, hr6.keeps.toBelow⟩).1
    rw [hmem x]
    unfold mB
    rw [List.take_length]
    constructor
    · rintro ⟨y, hy⟩
      split at hy
      · rename_i h
        obtain ⟨z, hz, e⟩ := List.mem_map.1 h
        exact ⟨z, hz, e⟩
      · cases hy
    · rintro ⟨z, hz, rfl⟩
      exact ⟨.v (.bool true), if_pos (List.mem_map.2 ⟨z, hz, rfl⟩)⟩
end Go.Proofs
