/- Requests: DedupOnce walked. -/
import Derived.Test.YtffooiccklfhlaaNI
import Derived.Test.YtffooiccklfhlaaSxR
namespace Go.Proofs
set_option linter.unusedVariables false
set_option linter.unusedSimpArgs false
set_option linter.unusedSectionVars false
open Go Go.SX Go.RowKit

theorem pair29 : KeyOK kv2 In2 Try.prog 29 := pairOK Try.underlying29 Try.underlying3 (by kernel_rfl) (by kernel_rfl) (by kernel_rfl) (by kernel_rfl) (of_decide_eq_true (by kernel_rfl))

/-- Something that is asked. -/
structure Opq where
  frm : Int
  id : Int
  kind : Int
  fg : Bool
def opq0 : Opq := ⟨0, 0, 0, false⟩
def opqC (o : Opq) : List SV := [.v (.int .i64 o.frm), .v (.int .i64 o.id), .v (.int .i64 o.kind), .v (.bool o.fg)]
abbrev RdQ := RdS opqC 4 opq0
def InQ (o : Opq) : Prop := inK o.frm ∧ inK o.id ∧ inK o.kind

structure OnInv (L : List Sen) (mD mG : Int × Int → Option Value) : Prop where
  gone : ∀ p v, mG p = some v → v = .bool true ∧ askK L p.1 p.2 = 2
  old : ∀ p, askK L p.1 p.2 = 1 → mD p = some (.int .i64 (askM L p.1 p.2).kind)
  had : ∀ p v, mD p = some v → askK L p.1 p.2 ≠ 0 ∧ ∃ n, v = .int .i64 n

theorem askK_gone {L L' : List Sen} {f i : Int} {x : Sad} (h : DoneTo L f x L') (hf : 0 ≤ f) (hk : askK L f x.id = 0) (h2 : askK L f i = 2) : askK L' f i = 2 := by
  obtain ⟨b, hb, _, hK, _⟩ := ask_self h hf hk
  have hC := (ask_new hk).2.1
  rw [(ask_eq hC).1] at h2
  rw [hK]
  by_cases hc : i < 0 ∨ i < (getN L f).below
  · rw [if_pos (by omega)]
  · rw [if_neg hc] at h2
    split at h2 <;> omega

theorem OnInv.done {L L' : List Sen} {mD mG : Int × Int → Option Value} {f : Int} {x : Sad} (h : OnInv L mD mG) (hD : DoneTo L f x L') (hf : 0 ≤ f) (hk : askK L f x.id = 0) : OnInv L' (updK mD (f, x.id) (.int .i64 x.m.kind)) mG := by
  obtain ⟨b, hb, _, hK, hM⟩ := ask_self hD hf hk
  have hC := (ask_new hk).2.1
  refine ⟨fun p v hp => ?_, fun p hp => ?_, fun p v hp => ?_⟩
  · obtain ⟨h1, h2⟩ := h.gone p v hp
    refine ⟨h1, ?_⟩
    by_cases hpf : p.1 = f
    · rw [hpf] at h2 ⊢
      exact askK_gone hD hf hk h2
    · rw [(ask_other hD hC hpf).1]; exact h2
  · unfold updK
    by_cases hpf : p.1 = f
    · rw [hpf] at hp ⊢
      rw [hK] at hp
      rw [hM]
      by_cases hc : p.2 < 0 ∨ p.2 < b
      · rw [if_pos hc] at hp; omega
      · rw [if_neg hc] at hp ⊢
        by_cases hx : p.2 = x.id
        · rw [if_pos (Prod.ext hpf hx), if_pos hx]
        · rw [if_neg hx] at hp ⊢
          rw [if_neg fun e => hx (congrArg Prod.snd e), ← hpf]
          exact h.old p (by rw [hpf]; exact hp)
    · rw [(ask_other hD hC hpf).1] at hp
      rw [(ask_other hD hC hpf).2, if_neg fun e => hpf (congrArg Prod.fst e)]
      exact h.old p hp
  · unfold updK at hp
    by_cases he : p = (f, x.id)
    · subst he
      rw [if_pos rfl] at hp
      cases hp
      refine ⟨?_, _, rfl⟩
      show askK L' f x.id ≠ 0
      rw [hK]
      split
      · omega
      · rw [if_pos rfl]; omega
    · rw [if_neg he] at hp
      obtain ⟨h1, h2⟩ := h.had p v hp
      refine ⟨?_, h2⟩
      by_cases hpf : p.1 = f
      · rw [hpf] at h1 ⊢
        rw [hK]
        split
        · omega
        · rw [if_neg fun e => he (Prod.ext hpf e)]; exact h1
      · rw [(ask_other hD hC hpf).1]; exact h1

def OnLoop (F : Fr) (z : Nat) (ops : List Opq) (vo : Value) (bd bg : Nat) (m : Nat) (a : Act) (w' : World) : Prop :=
  ∃ (k : Nat) (es1 : Array MapEntry) (clk1 : Nat) (es2 : Array MapEntry) (clk2 : Nat) (mD mG : Int × Int → Option Value) (L : List Sen) (v : Value), m = ops.length - k ∧ k ≤ ops.length ∧ KM kv2 In2 es1 clk1 mD ∧ KM kv2 In2 es2 clk2 mG ∧ OnInv L mD mG ∧ ChkN (-1) L ∧ SmallN L ∧ L.length ≤ k ∧ RdD (fun x => z ≤ x) w' v L ∧
    RepX F ⟨[(25, 0, .v (.int .i64 k)), (24, 0, .v (.int .i64 ops.length)), (23, 0, .v vo), (0, 0, .v vo), (4, 0, .v v), (5, 0, .mp 0 bd), (6, 0, .mp 1 bg), (2, 0, .v (.bool false)), (3, 0, .v (.bool true))], [(bd, true, .obj (.map es1 clk1)), (bg, true, .obj (.map es2 clk2))], 0, 0, 120, [], [], []⟩ a w'

def OnJ (F : Fr) (z : Nat) (ops : List Opq) (vo v : Value) (k : Nat) (o : Opq) (L : List Sen) (mD : Int × Int → Option Value) (bd bg sO : Nat) (a : Act) (w' : World) : Prop :=
  ∃ (es1 : Array MapEntry) (clk1 : Nat) (es2 : Array MapEntry) (clk2 : Nat) (mG : Int × Int → Option Value), KM kv2 In2 es1 clk1 mD ∧ KM kv2 In2 es2 clk2 mG ∧ OnInv L mD mG ∧ RdD (fun x => z ≤ x) w' v L ∧
    RepX F ⟨[(25, 0, .v (.int .i64 k)), (24, 0, .v (.int .i64 ops.length)), (23, 0, .v vo), (0, 0, .v vo), (4, 0, .v v), (5, 0, .mp 0 bd), (6, 0, .mp 1 bg), (2, 0, .v (.bool false)), (3, 0, .v (.bool true)), (8, 0, .ptr 2 sO 0), (9, 0, .ptr 3 (sO + 1) 0), (11, 0, .v (.int .i64 (askK L o.frm o.id)))],
      [(bd, true, .obj (.map es1 clk1)), (bg, true, .obj (.map es2 clk2)), (sO, false, .cells [.v (.int .i64 o.frm), .v (.int .i64 o.id), .v (.int .i64 o.kind), .v (.bool false)] 28), (sO + 1, false, .cells [.v (.int .i64 o.frm), .v (.int .i64 o.id)] 29)], 0, 0, 120, [], [], []⟩ a w'

theorem ask_cases {L : List Sen} {f i : Int} (hC : ChkN (-1) L) : askK L f i = 0 ∨ askK L f i = 1 ∨ askK L f i = 2 := by
  rw [(ask_eq hC).1]
  split
  · exact .inr (.inr rfl)
  · split
    · exact .inr (.inl rfl)
    · exact .inl rfl

set_option maxRecDepth 100000 in
set_option maxHeartbeats 64000000 in
/-- DedupOnce. -/
theorem once_ok (w : World) (v : Value) (ops : List Opq) (hQ : RdQ (fun x => x < w.heap.size) w v ops) (hI : ∀ x ∈ ops, InQ x) (hn : ops.length ≤ 1000000000000000) : Calls Try.prog 3 (denL [.v v]).toArray w (Ret w (.v (.bool true))) := by
  obtain ⟨ad, cp, rfl⟩ := hQ.slice
  refine enter (F := frame0 w) Try.func3 rfl [.v (.slice ad ops.length cp)] [] (by simp [Try.f3]) trivial (keeps0 w) fun a hr => ?_
  refine seg cfg3_ok mixed PanicFree.body 1000 [] [] hr (by first | trivial | exact HpRep.nil | assumption) (by kernel_rfl) fun s_ hs_ => ?_
  simp (maxSteps := 10000000) [SX.vc, SX.stop, SX.contS, SX.contB, SX.contW, SX.contR, SX.contD, SX.sxStep, SX.stepPure, SX.stepNew, SX.stepStore, SX.stepKeep, SX.guardIx, SX.evOp, SX.opd, SX.opds, SX.optOpd, SX.look, SX.putS, SX.gobs, SX.AllP, SX.leave, SX.lookC, SX.lookB, SX.lookT, SX.lookN, SX.findK, SX.evBuiltin, SX.ints, SX.foldI, SX.evBin, SX.evInt, SX.evStr, SX.evEq, SX.arith, SX.evLoad, SX.shapeUp, SX.evFieldAddr, SX.evField, SX.evIndexAddr, SX.evIndex, SX.evFill, SX.evBuild, SX.szs, SX.cellsV, SX.evNew, SX.evStore, SX.spliceL, SX.SV.cells, SX.evConv, SX.evSlice, SX.bnd, SX.evNil, SX.evUn, SX.evPick, SX.pickOpd, SX.popTo, SX.cnd, SX.env0, SX.TD.isAgg, SX.TD.isIface, SX.tails, SX.NotAgg, SX.evLookup, SX.evConvH, SX.evPtrEq, SX.isCells, SX.thaw, SX.frz, SX.fixB, SX.rootIx, SX.Froz, SX.frzStep, SX.fork, Go.Value.cells, Go.undef, cfg3, Try.f3]
  refine ⟨by (unfold SX.Ob; first | trivial | omega | ((try simp only [SX.inK]); (try simp [SX.den, SX.IsU8, SX.AllP, *]); (try omega))), ?_⟩
  intro a1 w1 hr1 _
  refine post_call 7 [] hr1 (by first | exact wanted_none rfl | exact wanted_zero (hr1.env.same rfl rfl rfl rfl) rfl (by simp) | exact wanted_zero (hr1.env.same rfl rfl rfl rfl) rfl (by simp [*])) rfl (callable 7 Try.func7) (live_ok w1) ?_
  rintro e2 w2 ⟨rfl, hb2⟩
  refine ⟨_, rfl, ?_⟩
  have h2 := hr1.ret hb2 16 (.v (.bool true)) rfl _ (hr1.all.below hb2) (by simp) rfl
  by_cases hF : ops.length ≤ 100
  rotate_left
  · have hF' : (100 : Int) < (ops.length : Int) := by omega
    refine seg cfg3_ok mixed PanicFree.body 1000 [true] [] h2 (by first | trivial | exact HpRep.nil | assumption) (by kernel_rfl) fun s_ hs_ => ?_
    simp (maxSteps := 10000000) [SX.vc, SX.stop, SX.contS, SX.contB, SX.contW, SX.contR, SX.contD, SX.sxStep, SX.stepPure, SX.stepNew, SX.stepStore, SX.stepKeep, SX.guardIx, SX.evOp, SX.opd, SX.opds, SX.optOpd, SX.look, SX.putS, SX.gobs, SX.AllP, SX.leave, SX.lookC, SX.lookB, SX.lookT, SX.lookN, SX.findK, SX.evBuiltin, SX.ints, SX.foldI, SX.evBin, SX.evInt, SX.evStr, SX.evEq, SX.arith, SX.evLoad, SX.shapeUp, SX.evFieldAddr, SX.evField, SX.evIndexAddr, SX.evIndex, SX.evFill, SX.evBuild, SX.szs, SX.cellsV, SX.evNew, SX.evStore, SX.spliceL, SX.SV.cells, SX.evConv, SX.evSlice, SX.bnd, SX.evNil, SX.evUn, SX.evPick, SX.pickOpd, SX.popTo, SX.cnd, SX.env0, SX.TD.isAgg, SX.TD.isIface, SX.tails, SX.NotAgg, SX.evLookup, SX.evConvH, SX.evPtrEq, SX.isCells, SX.thaw, SX.frz, SX.fixB, SX.rootIx, SX.Froz, SX.frzStep, SX.fork, Go.Value.cells, Go.undef, cfg3, hF']
    refine ⟨by (unfold SX.Ob; first | trivial | omega | ((try simp only [SX.inK]); (try simp [SX.den, SX.IsU8, SX.AllP, *]); (try omega))), ?_⟩
    intro a3 w3 hr3 _
    exact post_retn (end1 hr3 rfl rfl ⟨rfl, hr3.keeps.toBelow⟩).1
  have hF' : ¬ (100 : Int) < (ops.length : Int) := by omega
  refine seg cfg3_ok mixed PanicFree.body 1000 [false] [] h2 (by first | trivial | exact HpRep.nil | assumption) (by kernel_rfl) fun bd hbd => ?_
  simp (maxSteps := 10000000) [SX.vc, SX.stop, SX.contS, SX.contB, SX.contW, SX.contR, SX.contD, SX.sxStep, SX.stepPure, SX.stepNew, SX.stepStore, SX.stepKeep, SX.guardIx, SX.evOp, SX.opd, SX.opds, SX.optOpd, SX.look, SX.putS, SX.gobs, SX.AllP, SX.leave, SX.lookC, SX.lookB, SX.lookT, SX.lookN, SX.findK, SX.evBuiltin, SX.ints, SX.foldI, SX.evBin, SX.evInt, SX.evStr, SX.evEq, SX.arith, SX.evLoad, SX.shapeUp, SX.evFieldAddr, SX.evField, SX.evIndexAddr, SX.evIndex, SX.evFill, SX.evBuild, SX.szs, SX.cellsV, SX.evNew, SX.evStore, SX.spliceL, SX.SV.cells, SX.evConv, SX.evSlice, SX.bnd, SX.evNil, SX.evUn, SX.evPick, SX.pickOpd, SX.popTo, SX.cnd, SX.env0, SX.TD.isAgg, SX.TD.isIface, SX.tails, SX.NotAgg, SX.evLookup, SX.evConvH, SX.evPtrEq, SX.isCells, SX.thaw, SX.frz, SX.fixB, SX.rootIx, SX.Froz, SX.frzStep, SX.fork, Go.Value.cells, Go.undef, cfg3, hF']
  refine ⟨by (unfold SX.Ob; first | trivial | omega | ((try simp only [SX.inK]); (try simp [SX.den, SX.IsU8, SX.AllP, *]); (try omega))), ?_⟩
  intro a3 w3 hr3 _
  have hA3 := hr3.all
  obtain ⟨es1, clk1, hb1, hm1⟩ := hA3.1.1
  obtain ⟨es2, clk2, hb2', hm2⟩ := hA3.2.1.1
  have hr4 := hr3.see [(bd, true, .obj (.map es1 clk1)), (bd + 1, true, .obj (.map es2 clk2))] ⟨⟨hb1, hA3.1.2.1, by simp⟩, ⟨hb2', hA3.2.1.2.1, by simp⟩, trivial⟩
  have hQ3 := hQ.below hr3.keeps.toBelow
  have lbd : w.heap.size ≤ bd := by
    rcases hA3.1.2.1 rfl with h | h
    · exact h
    · cases h
  have lbg := lt_of_heap hb2'
  clear hr hr1 h2 hr3 hA3
  refine post_loop (OnLoop (frameAt w3 [(bd, true, .obj (.map es1 clk1)), (bd + 1, true, .obj (.map es2 clk2))]) w3.heap.size ops (.slice ad ops.length cp) bd (bd + 1)) ops.length ⟨0, es1, clk1, es2, clk2, _, _, [], .slice none 0 0, rfl, by omega, KM.ofNew hm1, KM.ofNew hm2, ⟨by simp, fun p hp => absurd hp (by unfold askK; split <;> simp [ofN]), by simp⟩, by simp [ChkN], smallN_nil, by simp, RdD.nil, hr4.rebase.re (by simp [envTo, SX.look]) ⟨⟨hb1, fun _ => .inr (by simp [frameAt, mutB]), by simp⟩, ⟨hb2', fun _ => .inr (by simp [frameAt, mutB]), by simp⟩, trivial⟩ rfl rfl⟩ ?_
  rintro m a5 w5 ⟨k, es1', clk1', es2', clk2', mD, mG, L, v, rfl, hk, hD, hG, hInv, hC, hS, hlen, hR, hr5⟩
  have z5 : w3.heap.size ≤ w5.heap.size := hr5.keeps.size
  have hQ5 := hQ3.keep hr5.keeps (by simp [frameAt, mutB]; omega)
  by_cases hlt : k < ops.length
  rotate_left
  · obtain rfl : k = ops.length := by omega
    refine seg cfg3_ok mixed PanicFree.body 1000 [false] [] hr5 (by first | trivial | exact HpRep.nil | assumption) (by kernel_rfl) fun s_ hs_ => ?_
    simp (maxSteps := 10000000) [SX.vc, SX.stop, SX.contS, SX.contB, SX.contW, SX.contR, SX.contD, SX.sxStep, SX.stepPure, SX.stepNew, SX.stepStore, SX.stepKeep, SX.guardIx, SX.evOp, SX.opd, SX.opds, SX.optOpd, SX.look, SX.putS, SX.gobs, SX.AllP, SX.leave, SX.lookC, SX.lookB, SX.lookT, SX.lookN, SX.findK, SX.evBuiltin, SX.ints, SX.foldI, SX.evBin, SX.evInt, SX.evStr, SX.evEq, SX.arith, SX.evLoad, SX.shapeUp, SX.evFieldAddr, SX.evField, SX.evIndexAddr, SX.evIndex, SX.evFill, SX.evBuild, SX.szs, SX.cellsV, SX.evNew, SX.evStore, SX.spliceL, SX.SV.cells, SX.evConv, SX.evSlice, SX.bnd, SX.evNil, SX.evUn, SX.evPick, SX.pickOpd, SX.popTo, SX.cnd, SX.env0, SX.TD.isAgg, SX.TD.isIface, SX.tails, SX.NotAgg, SX.evLookup, SX.evConvH, SX.evPtrEq, SX.isCells, SX.thaw, SX.frz, SX.fixB, SX.rootIx, SX.Froz, SX.frzStep, SX.fork, Go.Value.cells, Go.undef, cfg3]
    refine ⟨by (unfold SX.Ob; first | trivial | omega | ((try simp only [SX.inK]); (try simp [SX.den, SX.IsU8, SX.AllP, *]); (try omega))), ?_⟩
    intro a6 w6 hr6 _
    have hr7 := hr4.unbase hr6
    exact post_retn (end1 hr7 rfl rfl ⟨rfl, hr7.keeps.toBelow⟩).1
  obtain ⟨b, o0, cap, u, fz, hP, hv, hrep⟩ := hQ5.opn hlt
  cases hv
  obtain ⟨o, ho⟩ : ∃ o, nth opq0 ops k = o := ⟨_, rfl⟩
  have hIo : InQ o := hI o (ho ▸ nth_mem hlt)
  have hA5 := hr5.all
  have lb5 : bd + 1 < w5.heap.size := SO.rep_lt hA5.2.1.1
  have h6 := (hr5.top 23 (.sl 2 b o0 0 ops.length cp 4) rfl (by simp [den])).see [(bd, true, .obj (.map es1' clk1')), (bd + 1, true, .obj (.map es2' clk2')), (b, false, .arr o0 ops.length (fun j => opqC (nth opq0 ops j)) 4 u fz)] ⟨⟨hA5.1.1, hA5.1.2.1, by simp; omega⟩, ⟨hA5.2.1.1, hA5.2.1.2.1, by simp; omega⟩, HpAll.one hrep⟩
  by_cases c1 : o.fg = true
  · refine seg cfg3_ok mixed PanicFree.body 1000 [true, true] [(31, true), (36, true), (41, true)] h6.rebase (by first | trivial | exact HpRep.nil | assumption) (by kernel_rfl) fun s_ hs_ => ?_
    simp (maxSteps := 10000000) [SX.vc, SX.stop, SX.contS, SX.contB, SX.contW, SX.contR, SX.contD, SX.sxStep, SX.stepPure, SX.stepNew, SX.stepStore, SX.stepKeep, SX.guardIx, SX.evOp, SX.opd, SX.opds, SX.optOpd, SX.look, SX.putS, SX.gobs, SX.AllP, SX.leave, SX.lookC, SX.lookB, SX.lookT, SX.lookN, SX.findK, SX.evBuiltin, SX.ints, SX.foldI, SX.evBin, SX.evInt, SX.evStr, SX.evEq, SX.arith, SX.evLoad, SX.shapeUp, SX.evFieldAddr, SX.evField, SX.evIndexAddr, SX.evIndex, SX.evFill, SX.evBuild, SX.szs, SX.cellsV, SX.evNew, SX.evStore, SX.spliceL, SX.SV.cells, SX.evConv, SX.evSlice, SX.bnd, SX.evNil, SX.evUn, SX.evPick, SX.pickOpd, SX.popTo, SX.cnd, SX.env0, SX.TD.isAgg, SX.TD.isIface, SX.tails, SX.NotAgg, SX.evLookup, SX.evConvH, SX.evPtrEq, SX.isCells, SX.thaw, SX.frz, SX.fixB, SX.rootIx, SX.Froz, SX.frzStep, SX.fork, Go.Value.cells, Go.undef, cfg3, opqC, ho, c1]
    refine ⟨by (unfold SX.Ob; first | trivial | omega | ((try simp only [SX.inK]); (try simp [SX.den, SX.IsU8, SX.AllP, *]); (try omega))), ?_⟩
    intro a7 w7 hr7' _
    have hr7 := h6.unbase hr7'
    have hR7 := hR.keep hr7'.keeps (by simp [frameAt, mutB]; omega)
    exact post_rnd (ops.length - (k + 1)) (by omega) ⟨k + 1, es1', clk1', es2', clk2', mD, mG, L, v, rfl, hlt, hD, hG, hInv, hC, hS, by omega, hR7, hr7.re (by simp [envTo, SX.look, den]) ⟨⟨hr7.all.1.1, hr7.all.1.2.1, by simp⟩, ⟨hr7.all.2.1.1, hr7.all.2.1.2.1, by simp⟩, trivial⟩ rfl rfl⟩
  have c1' : o.fg = false := by simpa using c1
  by_cases c2 : o.frm < 0
  · refine seg cfg3_ok mixed PanicFree.body 1000 [true, true] [(31, false), (36, true), (41, true)] h6.rebase (by first | trivial | exact HpRep.nil | assumption) (by kernel_rfl) fun s_ hs_ => ?_
    simp (maxSteps := 10000000) [SX.vc, SX.stop, SX.contS, SX.contB, SX.contW, SX.contR, SX.contD, SX.sxStep, SX.stepPure, SX.stepNew, SX.stepStore, SX.stepKeep, SX.guardIx, SX.evOp, SX.opd, SX.opds, SX.optOpd, SX.look, SX.putS, SX.gobs, SX.AllP, SX.leave, SX.lookC, SX.lookB, SX.lookT, SX.lookN, SX.findK, SX.evBuiltin, SX.ints, SX.foldI, SX.evBin, SX.evInt, SX.evStr, SX.evEq, SX.arith, SX.evLoad, SX.shapeUp, SX.evFieldAddr, SX.evField, SX.evIndexAddr, SX.evIndex, SX.evFill, SX.evBuild, SX.szs, SX.cellsV, SX.evNew, SX.evStore, SX.spliceL, SX.SV.cells, SX.evConv, SX.evSlice, SX.bnd, SX.evNil, SX.evUn, SX.evPick, SX.pickOpd, SX.popTo, SX.cnd, SX.env0, SX.TD.isAgg, SX.TD.isIface, SX.tails, SX.NotAgg, SX.evLookup, SX.evConvH, SX.evPtrEq, SX.isCells, SX.thaw, SX.frz, SX.fixB, SX.rootIx, SX.Froz, SX.frzStep, SX.fork, Go.Value.cells, Go.undef, cfg3, opqC, ho, c1', c2]
    refine ⟨by (unfold SX.Ob; first | trivial | omega | ((try simp only [SX.inK]); (try simp [SX.den, SX.IsU8, SX.AllP, *]); (try omega))), ?_⟩
    intro a7 w7 hr7' _
    have hr7 := h6.unbase hr7'
    have hR7 := hR.keep hr7'.keeps (by simp [frameAt, mutB]; omega)
    exact post_rnd (ops.length - (k + 1)) (by omega) ⟨k + 1, es1', clk1', es2', clk2', mD, mG, L, v, rfl, hlt, hD, hG, hInv, hC, hS, by omega, hR7, hr7.re (by simp [envTo, SX.look, den]) ⟨⟨hr7.all.1.1, hr7.all.1.2.1, by simp⟩, ⟨hr7.all.2.1.1, hr7.all.2.1.2.1, by simp⟩, trivial⟩ rfl rfl⟩
  by_cases c3 : o.id < 0
  · refine seg cfg3_ok mixed PanicFree.body 1000 [true, true] [(31, false), (36, false), (41, true)] h6.rebase (by first | trivial | exact HpRep.nil | assumption) (by kernel_rfl) fun s_ hs_ => ?_
    simp (maxSteps := 10000000) [SX.vc, SX.stop, SX.contS, SX.contB, SX.contW, SX.contR, SX.contD, SX.sxStep, SX.stepPure, SX.stepNew, SX.stepStore, SX.stepKeep, SX.guardIx, SX.evOp, SX.opd, SX.opds, SX.optOpd, SX.look, SX.putS, SX.gobs, SX.AllP, SX.leave, SX.lookC, SX.lookB, SX.lookT, SX.lookN, SX.findK, SX.evBuiltin, SX.ints, SX.foldI, SX.evBin, SX.evInt, SX.evStr, SX.evEq, SX.arith, SX.evLoad, SX.shapeUp, SX.evFieldAddr, SX.evField, SX.evIndexAddr, SX.evIndex, SX.evFill, SX.evBuild, SX.szs, SX.cellsV, SX.evNew, SX.evStore, SX.spliceL, SX.SV.cells, SX.evConv, SX.evSlice, SX.bnd, SX.evNil, SX.evUn, SX.evPick, SX.pickOpd, SX.popTo, SX.cnd, SX.env0, SX.TD.isAgg, SX.TD.isIface, SX.tails, SX.NotAgg, SX.evLookup, SX.evConvH, SX.evPtrEq, SX.isCells, SX.thaw, SX.frz, SX.fixB, SX.rootIx, SX.Froz, SX.frzStep, SX.fork, Go.Value.cells, Go.undef, cfg3, opqC, ho, c1', c2, c3]
    refine ⟨by (unfold SX.Ob; first | trivial | omega | ((try simp only [SX.inK]); (try simp [SX.den, SX.IsU8, SX.AllP, *]); (try omega))), ?_⟩
    intro a7 w7 hr7' _
    have hr7 := h6.unbase hr7'
    have hR7 := hR.keep hr7'.keeps (by simp [frameAt, mutB]; omega)
    exact post_rnd (ops.length - (k + 1)) (by omega) ⟨k + 1, es1', clk1', es2', clk2', mD, mG, L, v, rfl, hlt, hD, hG, hInv, hC, hS, by omega, hR7, hr7.re (by simp [envTo, SX.look, den]) ⟨⟨hr7.all.1.1, hr7.all.1.2.1, by simp⟩, ⟨hr7.all.2.1.1, hr7.all.2.1.2.1, by simp⟩, trivial⟩ rfl rfl⟩
  by_cases c4 : 1152921504606846976 < o.id
  · refine seg cfg3_ok mixed PanicFree.body 1000 [true, true] [(31, false), (36, false), (41, false)] h6.rebase (by first | trivial | exact HpRep.nil | assumption) (by kernel_rfl) fun s_ hs_ => ?_
    simp (maxSteps := 10000000) [SX.vc, SX.stop, SX.contS, SX.contB, SX.contW, SX.contR, SX.contD, SX.sxStep, SX.stepPure, SX.stepNew, SX.stepStore, SX.stepKeep, SX.guardIx, SX.evOp, SX.opd, SX.opds, SX.optOpd, SX.look, SX.putS, SX.gobs, SX.AllP, SX.leave, SX.lookC, SX.lookB, SX.lookT, SX.lookN, SX.findK, SX.evBuiltin, SX.ints, SX.foldI, SX.evBin, SX.evInt, SX.evStr, SX.evEq, SX.arith, SX.evLoad, SX.shapeUp, SX.evFieldAddr, SX.evField, SX.evIndexAddr, SX.evIndex, SX.evFill, SX.evBuild, SX.szs, SX.cellsV, SX.evNew, SX.evStore, SX.spliceL, SX.SV.cells, SX.evConv, SX.evSlice, SX.bnd, SX.evNil, SX.evUn, SX.evPick, SX.pickOpd, SX.popTo, SX.cnd, SX.env0, SX.TD.isAgg, SX.TD.isIface, SX.tails, SX.NotAgg, SX.evLookup, SX.evConvH, SX.evPtrEq, SX.isCells, SX.thaw, SX.frz, SX.fixB, SX.rootIx, SX.Froz, SX.frzStep, SX.fork, Go.Value.cells, Go.undef, cfg3, opqC, ho, c1', c2, c3, c4]
    refine ⟨by (unfold SX.Ob; first | trivial | omega | ((try simp only [SX.inK]); (try simp [SX.den, SX.IsU8, SX.AllP, *]); (try omega))), ?_⟩
    intro a7 w7 hr7' _
    have hr7 := h6.unbase hr7'
    have hR7 := hR.keep hr7'.keeps (by simp [frameAt, mutB]; omega)
    exact post_rnd (ops.length - (k + 1)) (by omega) ⟨k + 1, es1', clk1', es2', clk2', mD, mG, L, v, rfl, hlt, hD, hG, hInv, hC, hS, by omega, hR7, hr7.re (by simp [envTo, SX.look, den]) ⟨⟨hr7.all.1.1, hr7.all.1.2.1, by simp⟩, ⟨hr7.all.2.1.1, hr7.all.2.1.2.1, by simp⟩, trivial⟩ rfl rfl⟩
  refine seg cfg3_ok mixed PanicFree.body 1000 [true, false] [(31, false), (36, false), (41, false)] h6.rebase (by first | trivial | exact HpRep.nil | assumption) (by kernel_rfl) fun sO hsO => ?_
  simp (maxSteps := 10000000) [SX.vc, SX.stop, SX.contS, SX.contB, SX.contW, SX.contR, SX.contD, SX.sxStep, SX.stepPure, SX.stepNew, SX.stepStore, SX.stepKeep, SX.guardIx, SX.evOp, SX.opd, SX.opds, SX.optOpd, SX.look, SX.putS, SX.gobs, SX.AllP, SX.leave, SX.lookC, SX.lookB, SX.lookT, SX.lookN, SX.findK, SX.evBuiltin, SX.ints, SX.foldI, SX.evBin, SX.evInt, SX.evStr, SX.evEq, SX.arith, SX.evLoad, SX.shapeUp, SX.evFieldAddr, SX.evField, SX.evIndexAddr, SX.evIndex, SX.evFill, SX.evBuild, SX.szs, SX.cellsV, SX.evNew, SX.evStore, SX.spliceL, SX.SV.cells, SX.evConv, SX.evSlice, SX.bnd, SX.evNil, SX.evUn, SX.evPick, SX.pickOpd, SX.popTo, SX.cnd, SX.env0, SX.TD.isAgg, SX.TD.isIface, SX.tails, SX.NotAgg, SX.evLookup, SX.evConvH, SX.evPtrEq, SX.isCells, SX.thaw, SX.frz, SX.fixB, SX.rootIx, SX.Froz, SX.frzStep, SX.fork, Go.Value.cells, Go.undef, cfg3, opqC, ho, c1', c2, c3, c4]
  refine ⟨by (unfold SX.Ob; first | trivial | omega | ((try simp only [SX.inK]); (try simp [SX.den, SX.IsU8, SX.AllP, *]); (try omega))), ?_⟩
  intro a7 w7 hr7' _
  have hr7 := h6.unbase hr7'
  have hR7 := hR.keep hr7'.keeps (by simp [frameAt, mutB]; omega)
  have hA7 := hr7.all
  have lsO : w5.heap.size ≤ sO := by
    rcases hr7'.all.2.2.2.1.2.1 rfl with h | h
    · exact h
    · simp [frameAt, mutB] at h; omega
  have h8 := hr7.see [(bd, true, .obj (.map es1' clk1')), (bd + 1, true, .obj (.map es2' clk2')), (b, false, .any), (sO, false, .cells [.v (.int .i64 o.frm), .v (.int .i64 o.id), .v (.int .i64 o.kind), .v (.bool false)] 28), (sO + 1, false, .cells [.v (.int .i64 o.frm), .v (.int .i64 o.id)] 29)] ⟨⟨hA7.1.1, hA7.1.2.1, by simp; omega⟩, ⟨hA7.2.1.1, hA7.2.1.2.1, by simp; omega⟩, ⟨SO.rep_lt hA7.2.2.1.1, by simp, by simp; omega⟩, ⟨hA7.2.2.2.1.1, by simp, by simp⟩, ⟨hA7.2.2.2.2.1.1, by simp, by simp⟩, trivial⟩
  have hIn : In2 (o.frm, o.id) := ⟨hIo.1, hIo.2.1⟩
  have hk012 := ask_cases (f := o.frm) (i := o.id) hC
  refine post_call 8 [.v v, .v (.int .i64 o.frm), .v (.int .i64 o.id)] h8 (by first | exact wanted_none rfl | exact wanted_zero (h8.env.same rfl rfl rfl rfl) rfl (by simp) | exact wanted_zero (h8.env.same rfl rfl rfl rfl) rfl (by simp [*])) rfl (callable 8 Try.func8) (ask_ok w7 v L o.frm o.id hR7 hS (by omega)) ?_
  rintro e9 w9 ⟨rfl, hb9⟩
  refine ⟨_, rfl, ?_⟩
  have h9 := h8.ret hb9 57 (.tu [.ag (mgC (askM L o.frm o.id)), .v (.int .i64 (askK L o.frm o.id))]) rfl _ (h8.all.below hb9) (by simp) rfl
  obtain ⟨dk, hdk⟩ : ∃ dk, (mD (o.frm, o.id)).getD (.int .i64 0) = .int .i64 dk := by
    rcases hm : mD (o.frm, o.id) with _ | x
    · exact ⟨0, rfl⟩
    · obtain ⟨n, rfl⟩ := (hInv.had _ _ hm).2
      exact ⟨n, rfl⟩
  refine seg cfg3_ok mixed PanicFree.body 1000 [] [] h9.rebase (by first | trivial | exact HpRep.nil | assumption) (by kernel_rfl) fun sM hsM => ?_
  simp (maxSteps := 10000000) [SX.vc, SX.stop, SX.contS, SX.contB, SX.contW, SX.contR, SX.contD, SX.sxStep, SX.stepPure, SX.stepNew, SX.stepStore, SX.stepKeep, SX.guardIx, SX.evOp, SX.opd, SX.opds, SX.optOpd, SX.look, SX.putS, SX.gobs, SX.AllP, SX.leave, SX.lookC, SX.lookB, SX.lookT, SX.lookN, SX.findK, SX.evBuiltin, SX.ints, SX.foldI, SX.evBin, SX.evInt, SX.evStr, SX.evEq, SX.arith, SX.evLoad, SX.shapeUp, SX.evFieldAddr, SX.evField, SX.evIndexAddr, SX.evIndex, SX.evFill, SX.evBuild, SX.szs, SX.cellsV, SX.evNew, SX.evStore, SX.spliceL, SX.SV.cells, SX.evConv, SX.evSlice, SX.bnd, SX.evNil, SX.evUn, SX.evPick, SX.pickOpd, SX.popTo, SX.cnd, SX.env0, SX.TD.isAgg, SX.TD.isIface, SX.tails, SX.NotAgg, SX.evLookup, SX.evConvH, SX.evPtrEq, SX.isCells, SX.thaw, SX.frz, SX.fixB, SX.rootIx, SX.Froz, SX.frzStep, SX.fork, Go.Value.cells, Go.undef, cfg3, mgC]
  refine ⟨by (unfold SX.Ob; first | trivial | omega | ((try simp only [SX.inK]); (try simp [SX.den, SX.IsU8, SX.AllP, *]); (try omega))), ?_⟩
  intro a10 w10 hr10' _
  have hr10 := h9.unbase hr10'
  have hR10 := (hR7.below hb9).keep hr10'.keeps (by simp [frameAt, mutB]; omega)
  have hA10 := hr10.all
  have lsM : w9.heap.size ≤ sM := by
    rcases hr10'.all.2.2.2.2.2.1.2.1 rfl with h | h
    · exact h
    · simp [frameAt, mutB] at h; omega
  have lb9 : sO + 1 < w9.heap.size := SO.rep_lt h9.all.2.2.2.2.1.1
  have hr10b := hr10.see [(bd, true, .obj (.map es1' clk1')), (bd + 1, true, .obj (.map es2' clk2')), (b, false, .any), (sO, false, .cells [.v (.int .i64 o.frm), .v (.int .i64 o.id), .v (.int .i64 o.kind), .v (.bool false)] 28), (sO + 1, false, .cells [.v (.int .i64 o.frm), .v (.int .i64 o.id)] 29), (sM, false, .cells (mgC (askM L o.frm o.id)) 33)] ⟨⟨hA10.1.1, hA10.1.2.1, by simp; omega⟩, ⟨hA10.2.1.1, hA10.2.1.2.1, by simp; omega⟩, ⟨hA10.2.2.1.1, by simp, by simp; omega⟩, ⟨hA10.2.2.2.1.1, by simp, by simp; omega⟩, ⟨hA10.2.2.2.2.1.1, by simp, by simp; omega⟩, HpAll.one hA10.2.2.2.2.2.1.1⟩
  refine post_lookP (kv := kv2) (G := In2) (k := (o.frm, o.id)) hr10b (wanted_none rfl) rfl (by simp) rfl (ok := true) rfl rfl rfl (by simp [kv2, den, denL]) pair29 Try.underlying25 tok3 rfl hD hIn (z := .tu [.v (.int .i64 dk), .v (.bool (mD (o.frm, o.id)).isSome)]) (by simp [den, denL, hdk]) fun a11 hr11 => ?_
  refine seg cfg3_ok mixed PanicFree.body 7 [] [] hr11.rebase (by first | trivial | exact HpRep.nil | assumption) (by kernel_rfl) fun s_ hs_ => ?_
  simp (maxSteps := 10000000) [SX.vc, SX.stop, SX.contS, SX.contB, SX.contW, SX.contR, SX.contD, SX.sxStep, SX.stepPure, SX.stepNew, SX.stepStore, SX.stepKeep, SX.guardIx, SX.evOp, SX.opd, SX.opds, SX.optOpd, SX.look, SX.putS, SX.gobs, SX.AllP, SX.leave, SX.lookC, SX.lookB, SX.lookT, SX.lookN, SX.findK, SX.evBuiltin, SX.ints, SX.foldI, SX.evBin, SX.evInt, SX.evStr, SX.evEq, SX.arith, SX.evLoad, SX.shapeUp, SX.evFieldAddr, SX.evField, SX.evIndexAddr, SX.evIndex, SX.evFill, SX.evBuild, SX.szs, SX.cellsV, SX.evNew, SX.evStore, SX.spliceL, SX.SV.cells, SX.evConv, SX.evSlice, SX.bnd, SX.evNil, SX.evUn, SX.evPick, SX.pickOpd, SX.popTo, SX.cnd, SX.env0, SX.TD.isAgg, SX.TD.isIface, SX.tails, SX.NotAgg, SX.evLookup, SX.evConvH, SX.evPtrEq, SX.isCells, SX.thaw, SX.frz, SX.fixB, SX.rootIx, SX.Froz, SX.frzStep, SX.fork, Go.Value.cells, Go.undef, cfg3]
  refine ⟨by (unfold SX.Ob; first | trivial | omega | ((try simp only [SX.inK]); (try simp [SX.den, SX.IsU8, SX.AllP, *]); (try omega))), ?_⟩
  intro a12 w12 hr12' _
  have hr13 := hr11.unbase hr12'
  have hR12 := hR10.keep hr12'.keeps (by simp [frameAt, mutB]; omega)
  refine post_cut (OnJ (frameAt w3 [(bd, true, .obj (.map es1 clk1)), (bd + 1, true, .obj (.map es2 clk2))]) w3.heap.size ops (.slice (some ⟨b, o0, none⟩) ops.length cp) v k o L mD bd (bd + 1) sO) 1 rfl ?_ fun a20 w20 hJ => ?_
  · refine seg cfg3_ok mixed PanicFree.body 1000 [] [] hr13.rebase (by first | trivial | exact HpRep.nil | assumption) (by kernel_rfl) fun s_ hs_ => ?_
    simp (maxSteps := 10000000) [SX.vc, SX.stop, SX.contS, SX.contB, SX.contW, SX.contR, SX.contD, SX.sxStep, SX.stepPure, SX.stepNew, SX.stepStore, SX.stepKeep, SX.guardIx, SX.evOp, SX.opd, SX.opds, SX.optOpd, SX.look, SX.putS, SX.gobs, SX.AllP, SX.leave, SX.lookC, SX.lookB, SX.lookT, SX.lookN, SX.findK, SX.evBuiltin, SX.ints, SX.foldI, SX.evBin, SX.evInt, SX.evStr, SX.evEq, SX.arith, SX.evLoad, SX.shapeUp, SX.evFieldAddr, SX.evField, SX.evIndexAddr, SX.evIndex, SX.evFill, SX.evBuild, SX.szs, SX.cellsV, SX.evNew, SX.evStore, SX.spliceL, SX.SV.cells, SX.evConv, SX.evSlice, SX.bnd, SX.evNil, SX.evUn, SX.evPick, SX.pickOpd, SX.popTo, SX.cnd, SX.env0, SX.TD.isAgg, SX.TD.isIface, SX.tails, SX.NotAgg, SX.evLookup, SX.evConvH, SX.evPtrEq, SX.isCells, SX.thaw, SX.frz, SX.fixB, SX.rootIx, SX.Froz, SX.frzStep, SX.fork, Go.Value.cells, Go.undef, cfg3]
    refine ⟨by (unfold SX.Ob; first | trivial | omega | ((try simp only [SX.inK]); (try simp [SX.den, SX.IsU8, SX.AllP, *]); (try omega))), ?_⟩
    intro a14 w14 hr14' _
    have hr14 := hr13.unbase hr14'
    have hR14 := hR12.keep hr14'.keeps (by simp [frameAt, mutB]; omega)
    have hgz : ∀ v, mG (o.frm, o.id) = some v → v = .bool true ∧ askK L o.frm o.id = 2 := fun v h => hInv.gone _ v h
    refine post_lookP (kv := kv2) (G := In2) (k := (o.frm, o.id)) hr14 (wanted_none rfl) rfl (by simp) rfl (ok := false) rfl rfl rfl (by simp [kv2, den, denL]) pair29 Try.underlying26 tok4 rfl hG hIn (z := .v (.bool (mG (o.frm, o.id)).isSome)) (by
      rcases hm : mG (o.frm, o.id) with _ | x
      · rfl
      · rw [(hgz x hm).1]; rfl) fun a15 hr15 => ?_
    by_cases hg : (mG (o.frm, o.id)).isSome = true
    · obtain ⟨x, hx⟩ := Option.isSome_iff_exists.1 hg
      have hk2 := (hgz x hx).2
      refine seg cfg3_ok mixed PanicFree.body 1000 [true, false] [] hr15.rebase (by first | trivial | exact HpRep.nil | assumption) (by kernel_rfl) fun s_ hs_ => ?_
      simp (maxSteps := 10000000) [SX.vc, SX.stop, SX.contS, SX.contB, SX.contW, SX.contR, SX.contD, SX.sxStep, SX.stepPure, SX.stepNew, SX.stepStore, SX.stepKeep, SX.guardIx, SX.evOp, SX.opd, SX.opds, SX.optOpd, SX.look, SX.putS, SX.gobs, SX.AllP, SX.leave, SX.lookC, SX.lookB, SX.lookT, SX.lookN, SX.findK, SX.evBuiltin, SX.ints, SX.foldI, SX.evBin, SX.evInt, SX.evStr, SX.evEq, SX.arith, SX.evLoad, SX.shapeUp, SX.evFieldAddr, SX.evField, SX.evIndexAddr, SX.evIndex, SX.evFill, SX.evBuild, SX.szs, SX.cellsV, SX.evNew, SX.evStore, SX.spliceL, SX.SV.cells, SX.evConv, SX.evSlice, SX.bnd, SX.evNil, SX.evUn, SX.evPick, SX.pickOpd, SX.popTo, SX.cnd, SX.env0, SX.TD.isAgg, SX.TD.isIface, SX.tails, SX.NotAgg, SX.evLookup, SX.evConvH, SX.evPtrEq, SX.isCells, SX.thaw, SX.frz, SX.fixB, SX.rootIx, SX.Froz, SX.frzStep, SX.fork, Go.Value.cells, Go.undef, cfg3, hg, hk2]
      refine ⟨by (unfold SX.Ob; first | trivial | omega | ((try simp only [SX.inK]); (try simp [SX.den, SX.IsU8, SX.AllP, *]); (try omega))), ?_⟩
      intro a16 w16 hr16' _
      have hr16 := hr15.unbase hr16'
      exact post_inv ⟨es1', clk1', es2', clk2', mG, hD, hG, hInv, hR14.keep hr16'.keeps (by simp [frameAt, mutB]; omega), hr16.re (by simp [envTo, SX.look, den, hk2]) ⟨⟨hr16.all.1.1, hr16.all.1.2.1, by simp; omega⟩, ⟨hr16.all.2.1.1, hr16.all.2.1.2.1, by simp; omega⟩, ⟨hr16.all.2.2.2.1.1, by simp, by simp⟩, ⟨hr16.all.2.2.2.2.1.1, by simp, by simp⟩, trivial⟩ rfl rfl⟩
    have hg' : (mG (o.frm, o.id)).isSome = false := by simpa using hg
    rcases hk012 with hk0 | hk1 | hk2
    · have hnd : (mD (o.frm, o.id)).isSome = false := by
        rcases hm : mD (o.frm, o.id) with _ | x
        · rfl
        · exact absurd hk0 (hInv.had _ x hm).1
      refine seg cfg3_ok mixed PanicFree.body 1000 [false, false, true, false] [] hr15.rebase (by first | trivial | exact HpRep.nil | assumption) (by kernel_rfl) fun s_ hs_ => ?_
      simp (maxSteps := 10000000) [SX.vc, SX.stop, SX.contS, SX.contB, SX.contW, SX.contR, SX.contD, SX.sxStep, SX.stepPure, SX.stepNew, SX.stepStore, SX.stepKeep, SX.guardIx, SX.evOp, SX.opd, SX.opds, SX.optOpd, SX.look, SX.putS, SX.gobs, SX.AllP, SX.leave, SX.lookC, SX.lookB, SX.lookT, SX.lookN, SX.findK, SX.evBuiltin, SX.ints, SX.foldI, SX.evBin, SX.evInt, SX.evStr, SX.evEq, SX.arith, SX.evLoad, SX.shapeUp, SX.evFieldAddr, SX.evField, SX.evIndexAddr, SX.evIndex, SX.evFill, SX.evBuild, SX.szs, SX.cellsV, SX.evNew, SX.evStore, SX.spliceL, SX.SV.cells, SX.evConv, SX.evSlice, SX.bnd, SX.evNil, SX.evUn, SX.evPick, SX.pickOpd, SX.popTo, SX.cnd, SX.env0, SX.TD.isAgg, SX.TD.isIface, SX.tails, SX.NotAgg, SX.evLookup, SX.evConvH, SX.evPtrEq, SX.isCells, SX.thaw, SX.frz, SX.fixB, SX.rootIx, SX.Froz, SX.frzStep, SX.fork, Go.Value.cells, Go.undef, cfg3, hg', hk0, hnd]
      refine ⟨by (unfold SX.Ob; first | trivial | omega | ((try simp only [SX.inK]); (try simp [SX.den, SX.IsU8, SX.AllP, *]); (try omega))), ?_⟩
      intro a16 w16 hr16' _
      have hr16 := hr15.unbase hr16'
      exact post_inv ⟨es1', clk1', es2', clk2', mG, hD, hG, hInv, hR14.keep hr16'.keeps (by simp [frameAt, mutB]; omega), hr16.re (by simp [envTo, SX.look, den, hk0]) ⟨⟨hr16.all.1.1, hr16.all.1.2.1, by simp; omega⟩, ⟨hr16.all.2.1.1, hr16.all.2.1.2.1, by simp; omega⟩, ⟨hr16.all.2.2.2.1.1, by simp, by simp⟩, ⟨hr16.all.2.2.2.2.1.1, by simp, by simp⟩, trivial⟩ rfl rfl⟩
    · have hmd := hInv.old (o.frm, o.id) hk1
      have hnd : (mD (o.frm, o.id)).isSome = true := by rw [hmd]; rfl
      have hdk' : (askM L o.frm o.id).kind = dk := by rw [hmd] at hdk; simpa using hdk
      refine seg cfg3_ok mixed PanicFree.body 1000 [false, true, false] [(79, false)] hr15.rebase (by first | trivial | exact HpRep.nil | assumption) (by kernel_rfl) fun s_ hs_ => ?_
      simp (maxSteps := 10000000) [SX.vc, SX.stop, SX.contS, SX.contB, SX.contW, SX.contR, SX.contD, SX.sxStep, SX.stepPure, SX.stepNew, SX.stepStore, SX.stepKeep, SX.guardIx, SX.evOp, SX.opd, SX.opds, SX.optOpd, SX.look, SX.putS, SX.gobs, SX.AllP, SX.leave, SX.lookC, SX.lookB, SX.lookT, SX.lookN, SX.findK, SX.evBuiltin, SX.ints, SX.foldI, SX.evBin, SX.evInt, SX.evStr, SX.evEq, SX.arith, SX.evLoad, SX.shapeUp, SX.evFieldAddr, SX.evField, SX.evIndexAddr, SX.evIndex, SX.evFill, SX.evBuild, SX.szs, SX.cellsV, SX.evNew, SX.evStore, SX.spliceL, SX.SV.cells, SX.evConv, SX.evSlice, SX.bnd, SX.evNil, SX.evUn, SX.evPick, SX.pickOpd, SX.popTo, SX.cnd, SX.env0, SX.TD.isAgg, SX.TD.isIface, SX.tails, SX.NotAgg, SX.evLookup, SX.evConvH, SX.evPtrEq, SX.isCells, SX.thaw, SX.frz, SX.fixB, SX.rootIx, SX.Froz, SX.frzStep, SX.fork, Go.Value.cells, Go.undef, cfg3, hg', hk1, hnd, mgC, hdk']
      refine ⟨by (unfold SX.Ob; first | trivial | omega | ((try simp only [SX.inK]); (try simp [SX.den, SX.IsU8, SX.AllP, *]); (try omega))), ?_⟩
      intro a16 w16 hr16' _
      have hr16 := hr15.unbase hr16'
      exact post_inv ⟨es1', clk1', es2', clk2', mG, hD, hG, hInv, hR14.keep hr16'.keeps (by simp [frameAt, mutB]; omega), hr16.re (by simp [envTo, SX.look, den, hk1]) ⟨⟨hr16.all.1.1, hr16.all.1.2.1, by simp; omega⟩, ⟨hr16.all.2.1.1, hr16.all.2.1.2.1, by simp; omega⟩, ⟨hr16.all.2.2.2.1.1, by simp, by simp⟩, ⟨hr16.all.2.2.2.2.1.1, by simp, by simp⟩, trivial⟩ rfl rfl⟩
    · refine seg cfg3_ok mixed PanicFree.body 1000 [false, false, false] [] hr15.rebase (by first | trivial | exact HpRep.nil | assumption) (by kernel_rfl) fun s_ hs_ => ?_
      simp (maxSteps := 10000000) [SX.vc, SX.stop, SX.contS, SX.contB, SX.contW, SX.contR, SX.contD, SX.sxStep, SX.stepPure, SX.stepNew, SX.stepStore, SX.stepKeep, SX.guardIx, SX.evOp, SX.opd, SX.opds, SX.optOpd, SX.look, SX.putS, SX.gobs, SX.AllP, SX.leave, SX.lookC, SX.lookB, SX.lookT, SX.lookN, SX.findK, SX.evBuiltin, SX.ints, SX.foldI, SX.evBin, SX.evInt, SX.evStr, SX.evEq, SX.arith, SX.evLoad, SX.shapeUp, SX.evFieldAddr, SX.evField, SX.evIndexAddr, SX.evIndex, SX.evFill, SX.evBuild, SX.szs, SX.cellsV, SX.evNew, SX.evStore, SX.spliceL, SX.SV.cells, SX.evConv, SX.evSlice, SX.bnd, SX.evNil, SX.evUn, SX.evPick, SX.pickOpd, SX.popTo, SX.cnd, SX.env0, SX.TD.isAgg, SX.TD.isIface, SX.tails, SX.NotAgg, SX.evLookup, SX.evConvH, SX.evPtrEq, SX.isCells, SX.thaw, SX.frz, SX.fixB, SX.rootIx, SX.Froz, SX.frzStep, SX.fork, Go.Value.cells, Go.undef, cfg3, hg', hk2]
      refine ⟨by (unfold SX.Ob; first | trivial | omega | ((try simp only [SX.inK]); (try simp [SX.den, SX.IsU8, SX.AllP, *]); (try omega))), ?_⟩
      intro a16 w16 hr16' _
      have hr16 := hr15.unbase hr16'
      have hR16 := hR14.keep hr16'.keeps (by simp [frameAt, mutB]; omega)
      refine post_updP (kv := kv2) (G := In2) (k := (o.frm, o.id)) hr16 (wanted_none rfl) rfl rfl rfl rfl (by simp [kv2, den, denL]) (x := .v (.bool true)) rfl pair29 Try.underlying26 rfl hG hIn fun a17 w17 es3 clk3 hG3 hk17 hr17 => ?_
      have hR17 := hR16.keep hk17 (by simp; omega)
      have hInv3 : OnInv L mD (updK mG (o.frm, o.id) (den (.v (.bool true)))) := by
        refine ⟨fun p v hp => ?_, hInv.old, hInv.had⟩
        unfold updK at hp
        by_cases he : p = (o.frm, o.id)
        · subst he
          rw [if_pos rfl] at hp
          cases hp
          exact ⟨rfl, hk2⟩
        · rw [if_neg he] at hp
          exact hInv.gone p v hp
      refine seg cfg3_ok mixed PanicFree.body 1000 [] [] hr17.rebase (by first | trivial | exact HpRep.nil | assumption) (by kernel_rfl) fun s_ hs_ => ?_
      simp (maxSteps := 10000000) [SX.vc, SX.stop, SX.contS, SX.contB, SX.contW, SX.contR, SX.contD, SX.sxStep, SX.stepPure, SX.stepNew, SX.stepStore, SX.stepKeep, SX.guardIx, SX.evOp, SX.opd, SX.opds, SX.optOpd, SX.look, SX.putS, SX.gobs, SX.AllP, SX.leave, SX.lookC, SX.lookB, SX.lookT, SX.lookN, SX.findK, SX.evBuiltin, SX.ints, SX.foldI, SX.evBin, SX.evInt, SX.evStr, SX.evEq, SX.arith, SX.evLoad, SX.shapeUp, SX.evFieldAddr, SX.evField, SX.evIndexAddr, SX.evIndex, SX.evFill, SX.evBuild, SX.szs, SX.cellsV, SX.evNew, SX.evStore, SX.spliceL, SX.SV.cells, SX.evConv, SX.evSlice, SX.bnd, SX.evNil, SX.evUn, SX.evPick, SX.pickOpd, SX.popTo, SX.cnd, SX.env0, SX.TD.isAgg, SX.TD.isIface, SX.tails, SX.NotAgg, SX.evLookup, SX.evConvH, SX.evPtrEq, SX.isCells, SX.thaw, SX.frz, SX.fixB, SX.rootIx, SX.Froz, SX.frzStep, SX.fork, Go.Value.cells, Go.undef, cfg3]
      refine ⟨by (unfold SX.Ob; first | trivial | omega | ((try simp only [SX.inK]); (try simp [SX.den, SX.IsU8, SX.AllP, *]); (try omega))), ?_⟩
      intro a18 w18 hr18' _
      have hr18 := hr17.unbase hr18'
      have hR18 := hR17.keep hr18'.keeps (by simp [frameAt, mutB]; omega)
      exact post_inv ⟨es1', clk1', es3, clk3, _, hD, hG3, hInv3, hR18, hr18.re (by simp [envTo, SX.look, den, hk2]) ⟨⟨hr18.all.1.1, hr18.all.1.2.1, by simp; omega⟩, ⟨hr18.all.2.1.1, hr18.all.2.1.2.1, by simp; omega⟩, ⟨hr18.all.2.2.2.1.1, by simp, by simp⟩, ⟨hr18.all.2.2.2.2.1.1, by simp, by simp⟩, trivial⟩ rfl rfl⟩
  clear hR12 hr13 hr12' hr11 hr10b hA10 hr10 hr10' hR10 h9 hb9 h8 hA7 hr7 hr7' hR7 h6 hr5 hA5 hInv hD hG lsM
  obtain ⟨es1'', clk1'', es2'', clk2'', mG', hD, hG, hInv, hR, hr⟩ := hJ
  have lsK : sO + 1 < w20.heap.size := SO.rep_lt hr.all.2.2.2.1.1
  refine seg cfg3_ok mixed PanicFree.body 1000 [] [] hr.rebase (by first | trivial | exact HpRep.nil | assumption) (by kernel_rfl) fun s_ hs_ => ?_
  simp (maxSteps := 10000000) [SX.vc, SX.stop, SX.contS, SX.contB, SX.contW, SX.contR, SX.contD, SX.sxStep, SX.stepPure, SX.stepNew, SX.stepStore, SX.stepKeep, SX.guardIx, SX.evOp, SX.opd, SX.opds, SX.optOpd, SX.look, SX.putS, SX.gobs, SX.AllP, SX.leave, SX.lookC, SX.lookB, SX.lookT, SX.lookN, SX.findK, SX.evBuiltin, SX.ints, SX.foldI, SX.evBin, SX.evInt, SX.evStr, SX.evEq, SX.arith, SX.evLoad, SX.shapeUp, SX.evFieldAddr, SX.evField, SX.evIndexAddr, SX.evIndex, SX.evFill, SX.evBuild, SX.szs, SX.cellsV, SX.evNew, SX.evStore, SX.spliceL, SX.SV.cells, SX.evConv, SX.evSlice, SX.bnd, SX.evNil, SX.evUn, SX.evPick, SX.pickOpd, SX.popTo, SX.cnd, SX.env0, SX.TD.isAgg, SX.TD.isIface, SX.tails, SX.NotAgg, SX.evLookup, SX.evConvH, SX.evPtrEq, SX.isCells, SX.thaw, SX.frz, SX.fixB, SX.rootIx, SX.Froz, SX.frzStep, SX.fork, Go.Value.cells, Go.undef, cfg3]
  refine ⟨by (unfold SX.Ob; first | trivial | omega | ((try simp only [SX.inK]); (try simp [SX.den, SX.IsU8, SX.AllP, *]); (try omega))), ?_⟩
  intro a1 w1 hr1' _
  have hr1 := hr.unbase hr1'
  have hR1 := hR.keep hr1'.keeps (by simp [frameAt, mutB]; omega)
  refine post_call 9 [.v v, .v (.int .i64 o.frm), .v (.int .i64 o.id), .ag (mgC (mgK o.kind))] hr1 (by first | exact wanted_none rfl | exact wanted_zero (hr1.env.same rfl rfl rfl rfl) rfl (by simp) | exact wanted_zero (hr1.env.same rfl rfl rfl rfl) rfl (by simp [*])) rfl (callable 9 Try.func9) (done_ok w1 v L o.frm o.id (mgK o.kind) hR1 hS (by omega) (by omega)) ?_
  rintro e2 w2 ⟨v2, L2, rfl, hR2a, hDT, hND, hb2⟩
  refine ⟨_, rfl, ?_⟩
  have h2 := hr1.ret hb2 98 (.tu [.v v2, .v (.int .i64 (doneE L o.frm o.id))]) rfl _ (hr1.all.below hb2) (by simp) rfl
  have z2 : w3.heap.size ≤ w1.heap.size := hr1.keeps.size
  have hR2 := hR2a.mono (P' := fun x => w3.heap.size ≤ x) fun x _ h => by omega
  by_cases hk0 : askK L o.frm o.id = 0
  · have hE : doneE L o.frm o.id = 0 := (doneE_new (by omega)).2 hk0
    have hd := hDT hE
    have hS2 := hd.small hS (by show o.id ≤ _; omega)
    have hl2 : L2.length ≤ k + 1 := by have := hd.len; split at this <;> omega
    have hc : chkN L2 = 0 := if_pos hd.chk
    have hInv2 := hInv.done hd (by omega) hk0
    refine seg cfg3_ok mixed PanicFree.body 1000 [] [(106, false)] h2.rebase (by first | trivial | exact HpRep.nil | assumption) (by kernel_rfl) fun s_ hs_ => ?_
    simp (maxSteps := 10000000) [SX.vc, SX.stop, SX.contS, SX.contB, SX.contW, SX.contR, SX.contD, SX.sxStep, SX.stepPure, SX.stepNew, SX.stepStore, SX.stepKeep, SX.guardIx, SX.evOp, SX.opd, SX.opds, SX.optOpd, SX.look, SX.putS, SX.gobs, SX.AllP, SX.leave, SX.lookC, SX.lookB, SX.lookT, SX.lookN, SX.findK, SX.evBuiltin, SX.ints, SX.foldI, SX.evBin, SX.evInt, SX.evStr, SX.evEq, SX.arith, SX.evLoad, SX.shapeUp, SX.evFieldAddr, SX.evField, SX.evIndexAddr, SX.evIndex, SX.evFill, SX.evBuild, SX.szs, SX.cellsV, SX.evNew, SX.evStore, SX.spliceL, SX.SV.cells, SX.evConv, SX.evSlice, SX.bnd, SX.evNil, SX.evUn, SX.evPick, SX.pickOpd, SX.popTo, SX.cnd, SX.env0, SX.TD.isAgg, SX.TD.isIface, SX.tails, SX.NotAgg, SX.evLookup, SX.evConvH, SX.evPtrEq, SX.isCells, SX.thaw, SX.frz, SX.fixB, SX.rootIx, SX.Froz, SX.frzStep, SX.fork, Go.Value.cells, Go.undef, cfg3, hE, hk0]
    refine ⟨by (unfold SX.Ob; first | trivial | omega | ((try simp only [SX.inK]); (try simp [SX.den, SX.IsU8, SX.AllP, *]); (try omega))), ?_⟩
    intro a3 w3' hr3' _
    have hr3 := h2.unbase hr3'
    have hR3 := hR2.keep hr3'.keeps (by simp [frameAt, mutB]; omega)
    refine post_call 10 [.v v2] hr3 (by first | exact wanted_none rfl | exact wanted_zero (hr3.env.same rfl rfl rfl rfl) rfl (by simp) | exact wanted_zero (hr3.env.same rfl rfl rfl rfl) rfl (by simp [*])) rfl (callable 10 Try.func10) (rcheck_ok w3' v2 L2 hR3 hS2 (by omega)) ?_
    rintro e4 w4 ⟨rfl, hb4⟩
    refine ⟨_, rfl, ?_⟩
    have h4 := hr3.ret hb4 108 (.v (.int .i64 (chkN L2))) rfl _ (hr3.all.below hb4) (by simp) rfl
    have hR4 := hR3.below hb4
    refine seg cfg3_ok mixed PanicFree.body 1000 [false, true] [(106, false)] h4.rebase (by first | trivial | exact HpRep.nil | assumption) (by kernel_rfl) fun s_ hs_ => ?_
    simp (maxSteps := 10000000) [SX.vc, SX.stop, SX.contS, SX.contB, SX.contW, SX.contR, SX.contD, SX.sxStep, SX.stepPure, SX.stepNew, SX.stepStore, SX.stepKeep, SX.guardIx, SX.evOp, SX.opd, SX.opds, SX.optOpd, SX.look, SX.putS, SX.gobs, SX.AllP, SX.leave, SX.lookC, SX.lookB, SX.lookT, SX.lookN, SX.findK, SX.evBuiltin, SX.ints, SX.foldI, SX.evBin, SX.evInt, SX.evStr, SX.evEq, SX.arith, SX.evLoad, SX.shapeUp, SX.evFieldAddr, SX.evField, SX.evIndexAddr, SX.evIndex, SX.evFill, SX.evBuild, SX.szs, SX.cellsV, SX.evNew, SX.evStore, SX.spliceL, SX.SV.cells, SX.evConv, SX.evSlice, SX.bnd, SX.evNil, SX.evUn, SX.evPick, SX.pickOpd, SX.popTo, SX.cnd, SX.env0, SX.TD.isAgg, SX.TD.isIface, SX.tails, SX.NotAgg, SX.evLookup, SX.evConvH, SX.evPtrEq, SX.isCells, SX.thaw, SX.frz, SX.fixB, SX.rootIx, SX.Froz, SX.frzStep, SX.fork, Go.Value.cells, Go.undef, cfg3, hc, hE, hk0]
    refine ⟨by (unfold SX.Ob; first | trivial | omega | ((try simp only [SX.inK]); (try simp [SX.den, SX.IsU8, SX.AllP, *]); (try omega))), ?_⟩
    intro a5 w5' hr5' _
    have hr5 := h4.unbase hr5'
    have hR5 := hR4.keep hr5'.keeps (by simp [frameAt, mutB]; omega)
    refine post_updP (kv := kv2) (G := In2) (k := (o.frm, o.id)) hr5 (wanted_none rfl) rfl rfl rfl rfl (by simp [kv2, den, denL]) (x := .v (.int .i64 o.kind)) rfl pair29 Try.underlying25 rfl hD hIn fun a6 w6 es3 clk3 hD3 hk6 hr6 => ?_
    have hR6 := hR5.keep hk6 (by simp; omega)
    refine seg cfg3_ok mixed PanicFree.body 1000 [] [] hr6.rebase (by first | trivial | exact HpRep.nil | assumption) (by kernel_rfl) fun s_ hs_ => ?_
    simp (maxSteps := 10000000) [SX.vc, SX.stop, SX.contS, SX.contB, SX.contW, SX.contR, SX.contD, SX.sxStep, SX.stepPure, SX.stepNew, SX.stepStore, SX.stepKeep, SX.guardIx, SX.evOp, SX.opd, SX.opds, SX.optOpd, SX.look, SX.putS, SX.gobs, SX.AllP, SX.leave, SX.lookC, SX.lookB, SX.lookT, SX.lookN, SX.findK, SX.evBuiltin, SX.ints, SX.foldI, SX.evBin, SX.evInt, SX.evStr, SX.evEq, SX.arith, SX.evLoad, SX.shapeUp, SX.evFieldAddr, SX.evField, SX.evIndexAddr, SX.evIndex, SX.evFill, SX.evBuild, SX.szs, SX.cellsV, SX.evNew, SX.evStore, SX.spliceL, SX.SV.cells, SX.evConv, SX.evSlice, SX.bnd, SX.evNil, SX.evUn, SX.evPick, SX.pickOpd, SX.popTo, SX.cnd, SX.env0, SX.TD.isAgg, SX.TD.isIface, SX.tails, SX.NotAgg, SX.evLookup, SX.evConvH, SX.evPtrEq, SX.isCells, SX.thaw, SX.frz, SX.fixB, SX.rootIx, SX.Froz, SX.frzStep, SX.fork, Go.Value.cells, Go.undef, cfg3]
    refine ⟨by (unfold SX.Ob; first | trivial | omega | ((try simp only [SX.inK]); (try simp [SX.den, SX.IsU8, SX.AllP, *]); (try omega))), ?_⟩
    intro a7 w7 hr7' _
    have hr7 := hr6.unbase hr7'
    have hR7 := hR6.keep hr7'.keeps (by simp [frameAt, mutB]; omega)
    exact post_rnd (ops.length - (k + 1)) (by omega) ⟨k + 1, es3, clk3, es2'', clk2'', _, mG', L2, v2, rfl, hlt, hD3, hG, hInv2, hd.chk, hS2, hl2, hR7, hr7.re (by simp [envTo, SX.look, den]) ⟨⟨hr7.all.1.1, hr7.all.1.2.1, by simp⟩, ⟨hr7.all.2.1.1, hr7.all.2.1.2.1, by simp⟩, trivial⟩ rfl rfl⟩
  · have hE : ¬ doneE L o.frm o.id = 0 := fun h => hk0 ((doneE_new (by omega)).1 h)
    obtain ⟨rfl, rfl⟩ := hND hE
    have hE' : (doneE L o.frm o.id == 0) = false := by simpa using hE
    have hk0' : (askK L o.frm o.id == 0) = false := by simpa using hk0
    have hc : chkN [] = 0 := by decide
    refine seg cfg3_ok mixed PanicFree.body 1000 [] [(106, false)] h2.rebase (by first | trivial | exact HpRep.nil | assumption) (by kernel_rfl) fun s_ hs_ => ?_
    simp (maxSteps := 10000000) [SX.vc, SX.stop, SX.contS, SX.contB, SX.contW, SX.contR, SX.contD, SX.sxStep, SX.stepPure, SX.stepNew, SX.stepStore, SX.stepKeep, SX.guardIx, SX.evOp, SX.opd, SX.opds, SX.optOpd, SX.look, SX.putS, SX.gobs, SX.AllP, SX.leave, SX.lookC, SX.lookB, SX.lookT, SX.lookN, SX.findK, SX.evBuiltin, SX.ints, SX.foldI, SX.evBin, SX.evInt, SX.evStr, SX.evEq, SX.arith, SX.evLoad, SX.shapeUp, SX.evFieldAddr, SX.evField, SX.evIndexAddr, SX.evIndex, SX.evFill, SX.evBuild, SX.szs, SX.cellsV, SX.evNew, SX.evStore, SX.spliceL, SX.SV.cells, SX.evConv, SX.evSlice, SX.bnd, SX.evNil, SX.evUn, SX.evPick, SX.pickOpd, SX.popTo, SX.cnd, SX.env0, SX.TD.isAgg, SX.TD.isIface, SX.tails, SX.NotAgg, SX.evLookup, SX.evConvH, SX.evPtrEq, SX.isCells, SX.thaw, SX.frz, SX.fixB, SX.rootIx, SX.Froz, SX.frzStep, SX.fork, Go.Value.cells, Go.undef, cfg3, hE', hk0']
    refine ⟨by (unfold SX.Ob; first | trivial | omega | ((try simp only [SX.inK]); (try simp [SX.den, SX.IsU8, SX.AllP, *]); (try omega))), ?_⟩
    intro a3 w3' hr3' _
    have hr3 := h2.unbase hr3'
    have hR3 := (hR1.below hb2).keep hr3'.keeps (by simp [frameAt, mutB]; omega)
    refine post_call 10 [.v (.slice none 0 0)] hr3 (by first | exact wanted_none rfl | exact wanted_zero (hr3.env.same rfl rfl rfl rfl) rfl (by simp) | exact wanted_zero (hr3.env.same rfl rfl rfl rfl) rfl (by simp [*])) rfl (callable 10 Try.func10) (rcheck_ok (P := fun _ => False) w3' _ [] RdD.nil smallN_nil (by simp)) ?_
    rintro e4 w4 ⟨rfl, hb4⟩
    refine ⟨_, rfl, ?_⟩
    have h4 := hr3.ret hb4 108 (.v (.int .i64 (chkN []))) rfl _ (hr3.all.below hb4) (by simp) rfl
    have hR4 := hR3.below hb4
    refine seg cfg3_ok mixed PanicFree.body 1000 [false, false] [(106, false)] h4.rebase (by first | trivial | exact HpRep.nil | assumption) (by kernel_rfl) fun s_ hs_ => ?_
    simp (maxSteps := 10000000) [SX.vc, SX.stop, SX.contS, SX.contB, SX.contW, SX.contR, SX.contD, SX.sxStep, SX.stepPure, SX.stepNew, SX.stepStore, SX.stepKeep, SX.guardIx, SX.evOp, SX.opd, SX.opds, SX.optOpd, SX.look, SX.putS, SX.gobs, SX.AllP, SX.leave, SX.lookC, SX.lookB, SX.lookT, SX.lookN, SX.findK, SX.evBuiltin, SX.ints, SX.foldI, SX.evBin, SX.evInt, SX.evStr, SX.evEq, SX.arith, SX.evLoad, SX.shapeUp, SX.evFieldAddr, SX.evField, SX.evIndexAddr, SX.evIndex, SX.evFill, SX.evBuild, SX.szs, SX.cellsV, SX.evNew, SX.evStore, SX.spliceL, SX.SV.cells, SX.evConv, SX.evSlice, SX.bnd, SX.evNil, SX.evUn, SX.evPick, SX.pickOpd, SX.popTo, SX.cnd, SX.env0, SX.TD.isAgg, SX.TD.isIface, SX.tails, SX.NotAgg, SX.evLookup, SX.evConvH, SX.evPtrEq, SX.isCells, SX.thaw, SX.frz, SX.fixB, SX.rootIx, SX.Froz, SX.frzStep, SX.fork, Go.Value.cells, Go.undef, cfg3, hc, hE', hk0']
    refine ⟨by (unfold SX.Ob; first | trivial | omega | ((try simp only [SX.inK]); (try simp [SX.den, SX.IsU8, SX.AllP, *]); (try omega))), ?_⟩
    intro a7 w7 hr7' _
    have hr7 := h4.unbase hr7'
    have hR7 := hR4.keep hr7'.keeps (by simp [frameAt, mutB]; omega)
    exact post_rnd (ops.length - (k + 1)) (by omega) ⟨k + 1, es1'', clk1'', es2'', clk2'', mD, mG', L, v, rfl, hlt, hD, hG, hInv, hC, hS, by omega, hR7, hr7.re (by simp [envTo, SX.look, den]) ⟨⟨hr7.all.1.1, hr7.all.1.2.1, by simp⟩, ⟨hr7.all.2.1.1, hr7.all.2.1.2.1, by simp⟩, trivial⟩ rfl rfl⟩
end Go.Proofs
