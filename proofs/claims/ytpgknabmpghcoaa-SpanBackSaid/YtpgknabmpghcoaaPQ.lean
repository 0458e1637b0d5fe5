/- Spans: Give. -/
import Derived.Test.YtpgknabmpghcoaaPP
import Derived.Test.YtpgknabmpghcoaaPK
namespace Go.Proofs
set_option linter.unusedVariables false
set_option linter.unusedSimpArgs false
open Go Go.SX Go.RowKit

def GiveR (w : World) (L : List Spn) (f t o e : Int) (ev : Ending) (w' : World) : Prop :=
  ∃ v', ev = .returned (den (.tu [.v v', .v (.int .i64 (giveE L f t o e))])) ∧ OwP (fun x => w.heap.size ≤ x) w' v' (giveL L f t o e) ∧ Below w.heap.size w w'

/-- What is needed of the list that was cut. -/
structure GivF (C : List Spn) (f t : Int) (p : Nat) : Prop where
  pre : ∀ j, j < p → ¬ f ≤ (nth spn0 C j).fr
  mid : ∀ j, p ≤ j → j < C.length → f ≤ (nth spn0 C j).fr
  post : ∀ i j, i ≤ j → j < C.length → t < (nth spn0 C i).to → t < (nth spn0 C j).to

theorem givF {C : List Spn} {f t : Int} {p : Nat} (hC : ChkS 0 C) (hA : Apart f C) (hp : p < C.length) (hin : InS f (nth spn0 C p)) : GivF C f t p := by
  have hf : (nth spn0 C p).fr = f := by
    have h1 := hA _ (nth_mem (d := spn0) hp)
    have h2 := hin.1
    have h3 := hin.2
    omega
  refine ⟨fun j hj h => ?_, fun j hj hl => ?_, fun i j hij hl h => ?_⟩
  · have h1 := chkS_lt hC hj hp
    have h2 := (chkS_nth hC (show j < C.length by omega)).1
    omega
  · rcases Nat.lt_or_ge p j with h | h
    · have h1 := chkS_lt hC h hl
      have h2 := (chkS_nth hC hp).1
      omega
    · obtain rfl : j = p := by omega
      omega
  · rcases Nat.lt_or_ge i j with h' | h'
    · have h1 := chkS_lt hC h' hl
      have h2 := (chkS_nth hC hl).1
      omega
    · obtain rfl : i = j := by omega
      exact h

def GLoop (w : World) (C : List Spn) (f t o e : Int) (p : Nat) (m : Nat) (a : Act) (w' : World) : Prop :=
  ∃ (k : Nat) (v' : Value), m = C.length - k ∧ p ≤ k ∧ k ≤ C.length ∧ (∀ j, j < k → ¬ Old f t o e (nth spn0 C j)) ∧ OwP (fun x => w.heap.size ≤ x) w' v' ((C.take k).map (giv f t o e) ++ C.drop k) ∧
    RepX (frame0 w) ⟨[(13, 0, .v (.int .i64 k)), (12, 0, .v v'), (2, 0, .v (.int .i64 t)), (3, 0, .v (.int .i64 o)), (4, 0, .v (.int .i64 e)), (10, 0, .v (.slice none 0 0)), (11, 0, .v (.int .i64 0))], [], 0, 0, 79, [], [], []⟩ a w'

theorem nth_map {α β : Type} {d : α} {d' : β} {f : α → β} {L : List α} {j : Nat} (h : j < L.length) : nth d' (L.map f) j = f (nth d L j) := by
  rw [nth_lt (by simpa using h), nth_lt h]; simp

theorem nth_mix {C : List Spn} {g : Spn → Spn} {k j : Nat} (hk : k ≤ C.length) (hj : j < C.length) : nth spn0 ((C.take k).map g ++ C.drop k) j = if j < k then g (nth spn0 C j) else nth spn0 C j := by
  by_cases h : j < k
  · rw [if_pos h, nth_append_left (by simp; omega), nth_map (d := spn0) (by simp; omega)]
    congr 1
    have := nth_part (d := spn0) (L := C) (i := 0) (n := k) h
    simpa using this
  · rw [if_neg h]
    obtain ⟨q, rfl⟩ : ∃ q, j = k + q := ⟨j - k, by omega⟩
    have e : k + q = ((C.take k).map g).length + q := by simp; omega
    rw [e, nth_append_right]
    simp [nth]
    congr 2
    omega

theorem setRow_same {row : Nat → List SV} {k : Nat} {x : List SV} : setRow row k x k = x := by simp [setRow]
theorem setRow_two {row : Nat → List SV} {k : Nat} {x y : List SV} : setRow (setRow row k x) k y = setRow row k y := by
  funext j
  unfold setRow
  split <;> rfl

theorem mix_len {C : List Spn} {g : Spn → Spn} {k : Nat} : ((C.take k).map g ++ C.drop k).length = C.length := by simp; omega

theorem RdI.lit2 {w : World} {s : Nat} {row : Nat → List SV} {u : TypeId} {fz : Nat × Nat} {x y : Int} (h : (SO.arr 0 2 row 1 u fz).rep w s) (h0 : denL (row 0) = denL (intC x)) (h1 : denL (row 1) = denL (intC y)) :
    RdI (fun _ => True) w (.slice (some ⟨s, 0, none⟩) 2 2) [x, y] :=
  .inr ⟨by simp, s, 0, 2, u, fz, trivial, rfl, rep_arr_sub h (Nat.le_refl _) (fun j hj => by
    have : j = 0 ∨ j = 1 := by simp at hj; omega
    rcases this with rfl | rfl
    · exact h0
    · exact h1), Nat.le_refl _⟩

theorem inS_some : ∀ {L : List Spn} {last b : Int}, ChkS last L → last ≤ b → b < endS last L → ∃ j, j < L.length ∧ InS b (nth spn0 L j)
  | [], last, b, _, h1, h2 => by simp only [endS] at h2; omega
  | s :: r, last, b, h, h1, h2 => by
    have a1 := h.1
    rcases Int.lt_or_le b s.to with h' | h'
    · exact ⟨0, by simp, by show s.fr ≤ b; omega, h'⟩
    · obtain ⟨j, hj, hi⟩ := inS_some (L := r) h.2.2.2 h' h2
      exact ⟨j + 1, by simpa using hj, hi⟩

set_option maxRecDepth 100000 in
set_option maxHeartbeats 16000000 in
/-- Give. -/
theorem Give_ok {P : Nat → Prop} (w : World) (v : Value) (L : List Spn) (f t o e : Int) (hL : RdP P w v L) (hn : L.length ≤ 100000) : Calls Try.prog 10 (denL [.v v, .v (.int .i64 f), .v (.int .i64 t), .v (.int .i64 o), .v (.int .i64 e)]).toArray w (GiveR w L f t o e) := by
  obtain ⟨ad, cp, rfl⟩ := hL.slice
  refine enter (F := frame0 w) Try.func10 rfl [.v (.slice ad L.length cp), .v (.int .i64 f), .v (.int .i64 t), .v (.int .i64 o), .v (.int .i64 e)] [] (by simp [Try.f10]) trivial (keeps0 w) fun a hr => ?_
  refine seg cfg10_ok mixed PanicFree.body 1000 [] [] hr (by first | trivial | exact HpRep.nil | assumption) (by kernel_rfl) fun s_ hs_ => ?_
  simp (maxSteps := 10000000) [SX.vc, SX.stop, SX.contS, SX.contB, SX.contW, SX.contR, SX.contD, SX.sxStep, SX.stepPure, SX.stepNew, SX.stepStore, SX.stepKeep, SX.guardIx, SX.evOp, SX.opd, SX.opds, SX.optOpd, SX.look, SX.putS, SX.gobs, SX.AllP, SX.leave, SX.lookC, SX.lookB, SX.lookT, SX.lookN, SX.findK, SX.evBuiltin, SX.ints, SX.foldI, SX.evBin, SX.evInt, SX.evStr, SX.evEq, SX.arith, SX.evLoad, SX.shapeUp, SX.evFieldAddr, SX.evField, SX.evIndexAddr, SX.evIndex, SX.evFill, SX.evBuild, SX.szs, SX.cellsV, SX.evNew, SX.evStore, SX.spliceL, SX.SV.cells, SX.evConv, SX.evSlice, SX.bnd, SX.evNil, SX.evUn, SX.evPick, SX.pickOpd, SX.popTo, SX.cnd, SX.env0, SX.TD.isAgg, SX.TD.isIface, SX.tails, SX.NotAgg, SX.evLookup, SX.evConvH, SX.evPtrEq, SX.isCells, SX.thaw, SX.frz, SX.fixB, SX.rootIx, SX.Froz, SX.frzStep, SX.fork, Go.Value.cells, Go.undef, cfg10, Try.f10]
  refine ⟨by (unfold SX.Ob; first | trivial | omega | ((try simp only [SX.inK]); (try simp [SX.den, SX.IsU8, SX.AllP, *]); (try omega))), ?_⟩
  intro a1 w1 hr1 _
  refine post_call 24 [.v (.slice ad L.length cp), .v (.int .i64 f), .v (.int .i64 t)] hr1 (by first | exact wanted_none rfl | exact wanted_zero (hr1.env.same rfl rfl rfl rfl) rfl (by simp)) rfl (callable 24 Try.func24) (within_ok w1 _ L f t (hL.below hr1.keeps.toBelow) (by omega)) ?_
  rintro e2 w2 ⟨rfl, hb2⟩
  refine ⟨_, rfl, ?_⟩
  have h2 := hr1.ret hb2 17 (.v (.bool (decide (Within L f t)))) rfl _ (hr1.all.below hb2) (by simp) rfl
  by_cases hW : Within L f t
  rotate_left
  · have hE : giveE L f t o e = 1 := if_neg fun h => hW h.1
    have hG : giveL L f t o e = [] := by unfold giveL; rw [hE]; rfl
    refine seg cfg10_ok mixed PanicFree.body 1000 [true] [(19, true)] h2 (by first | trivial | exact HpRep.nil | assumption) (by kernel_rfl) fun s_ hs_ => ?_
    simp (maxSteps := 10000000) [SX.vc, SX.stop, SX.contS, SX.contB, SX.contW, SX.contR, SX.contD, SX.sxStep, SX.stepPure, SX.stepNew, SX.stepStore, SX.stepKeep, SX.guardIx, SX.evOp, SX.opd, SX.opds, SX.optOpd, SX.look, SX.putS, SX.gobs, SX.AllP, SX.leave, SX.lookC, SX.lookB, SX.lookT, SX.lookN, SX.findK, SX.evBuiltin, SX.ints, SX.foldI, SX.evBin, SX.evInt, SX.evStr, SX.evEq, SX.arith, SX.evLoad, SX.shapeUp, SX.evFieldAddr, SX.evField, SX.evIndexAddr, SX.evIndex, SX.evFill, SX.evBuild, SX.szs, SX.cellsV, SX.evNew, SX.evStore, SX.spliceL, SX.SV.cells, SX.evConv, SX.evSlice, SX.bnd, SX.evNil, SX.evUn, SX.evPick, SX.pickOpd, SX.popTo, SX.cnd, SX.env0, SX.TD.isAgg, SX.TD.isIface, SX.tails, SX.NotAgg, SX.evLookup, SX.evConvH, SX.evPtrEq, SX.isCells, SX.thaw, SX.frz, SX.fixB, SX.rootIx, SX.Froz, SX.frzStep, SX.fork, Go.Value.cells, Go.undef, cfg10, hW]
    refine ⟨by (unfold SX.Ob; first | trivial | omega | ((try simp only [SX.inK]); (try simp [SX.den, SX.IsU8, SX.AllP, *]); (try omega))), ?_⟩
    intro a3 w3 hr3 _
    exact post_retn (end2 hr3 rfl rfl rfl ⟨.slice none 0 0, by rw [hE]; simp [den, denL], by rw [hG]; exact OwS.nil, hr3.keeps.toBelow⟩).1
  refine seg cfg10_ok mixed PanicFree.body 1000 [] [(19, false)] h2 (by first | trivial | exact HpRep.nil | assumption) (by kernel_rfl) fun s_ hs_ => ?_
  simp (maxSteps := 10000000) [SX.vc, SX.stop, SX.contS, SX.contB, SX.contW, SX.contR, SX.contD, SX.sxStep, SX.stepPure, SX.stepNew, SX.stepStore, SX.stepKeep, SX.guardIx, SX.evOp, SX.opd, SX.opds, SX.optOpd, SX.look, SX.putS, SX.gobs, SX.AllP, SX.leave, SX.lookC, SX.lookB, SX.lookT, SX.lookN, SX.findK, SX.evBuiltin, SX.ints, SX.foldI, SX.evBin, SX.evInt, SX.evStr, SX.evEq, SX.arith, SX.evLoad, SX.shapeUp, SX.evFieldAddr, SX.evField, SX.evIndexAddr, SX.evIndex, SX.evFill, SX.evBuild, SX.szs, SX.cellsV, SX.evNew, SX.evStore, SX.spliceL, SX.SV.cells, SX.evConv, SX.evSlice, SX.bnd, SX.evNil, SX.evUn, SX.evPick, SX.pickOpd, SX.popTo, SX.cnd, SX.env0, SX.TD.isAgg, SX.TD.isIface, SX.tails, SX.NotAgg, SX.evLookup, SX.evConvH, SX.evPtrEq, SX.isCells, SX.thaw, SX.frz, SX.fixB, SX.rootIx, SX.Froz, SX.frzStep, SX.fork, Go.Value.cells, Go.undef, cfg10, hW]
  refine ⟨by (unfold SX.Ob; first | trivial | omega | ((try simp only [SX.inK]); (try simp [SX.den, SX.IsU8, SX.AllP, *]); (try omega))), ?_⟩
  intro a3 w3 hr3 _
  refine post_call 25 [.v (.int .i64 o), .v (.int .i64 e)] hr3 (by first | exact wanted_none rfl | exact wanted_zero (hr3.env.same rfl rfl rfl rfl) rfl (by simp)) rfl (callable 25 Try.func25) (may_ok w3 o e) ?_
  rintro e4 w4 ⟨rfl, hb4⟩
  refine ⟨_, rfl, ?_⟩
  have h4 := hr3.ret hb4 22 (.v (.bool (decide (MayO o e)))) rfl _ (hr3.all.below hb4) (by simp) rfl
  by_cases hM' : MayO o e
  rotate_left
  · have hE : giveE L f t o e = 1 := if_neg fun h => hM' h.2
    have hG : giveL L f t o e = [] := by unfold giveL; rw [hE]; rfl
    refine seg cfg10_ok mixed PanicFree.body 1000 [true] [(19, false)] h4 (by first | trivial | exact HpRep.nil | assumption) (by kernel_rfl) fun s_ hs_ => ?_
    simp (maxSteps := 10000000) [SX.vc, SX.stop, SX.contS, SX.contB, SX.contW, SX.contR, SX.contD, SX.sxStep, SX.stepPure, SX.stepNew, SX.stepStore, SX.stepKeep, SX.guardIx, SX.evOp, SX.opd, SX.opds, SX.optOpd, SX.look, SX.putS, SX.gobs, SX.AllP, SX.leave, SX.lookC, SX.lookB, SX.lookT, SX.lookN, SX.findK, SX.evBuiltin, SX.ints, SX.foldI, SX.evBin, SX.evInt, SX.evStr, SX.evEq, SX.arith, SX.evLoad, SX.shapeUp, SX.evFieldAddr, SX.evField, SX.evIndexAddr, SX.evIndex, SX.evFill, SX.evBuild, SX.szs, SX.cellsV, SX.evNew, SX.evStore, SX.spliceL, SX.SV.cells, SX.evConv, SX.evSlice, SX.bnd, SX.evNil, SX.evUn, SX.evPick, SX.pickOpd, SX.popTo, SX.cnd, SX.env0, SX.TD.isAgg, SX.TD.isIface, SX.tails, SX.NotAgg, SX.evLookup, SX.evConvH, SX.evPtrEq, SX.isCells, SX.thaw, SX.frz, SX.fixB, SX.rootIx, SX.Froz, SX.frzStep, SX.fork, Go.Value.cells, Go.undef, cfg10, hM']
    refine ⟨by (unfold SX.Ob; first | trivial | omega | ((try simp only [SX.inK]); (try simp [SX.den, SX.IsU8, SX.AllP, *]); (try omega))), ?_⟩
    intro a5 w5 hr5 _
    exact post_retn (end2 hr5 rfl rfl rfl ⟨.slice none 0 0, by rw [hE]; simp [den, denL], by rw [hG]; exact OwS.nil, hr5.keeps.toBelow⟩).1
  refine seg cfg10_ok mixed PanicFree.body 1000 [false] [(19, false)] h4 (by first | trivial | exact HpRep.nil | assumption) (by kernel_rfl) fun sA hsA => ?_
  simp (maxSteps := 10000000) [SX.vc, SX.stop, SX.contS, SX.contB, SX.contW, SX.contR, SX.contD, SX.sxStep, SX.stepPure, SX.stepNew, SX.stepStore, SX.stepKeep, SX.guardIx, SX.evOp, SX.opd, SX.opds, SX.optOpd, SX.look, SX.putS, SX.gobs, SX.AllP, SX.leave, SX.lookC, SX.lookB, SX.lookT, SX.lookN, SX.findK, SX.evBuiltin, SX.ints, SX.foldI, SX.evBin, SX.evInt, SX.evStr, SX.evEq, SX.arith, SX.evLoad, SX.shapeUp, SX.evFieldAddr, SX.evField, SX.evIndexAddr, SX.evIndex, SX.evFill, SX.evBuild, SX.szs, SX.cellsV, SX.evNew, SX.evStore, SX.spliceL, SX.SV.cells, SX.evConv, SX.evSlice, SX.bnd, SX.evNil, SX.evUn, SX.evPick, SX.pickOpd, SX.popTo, SX.cnd, SX.env0, SX.TD.isAgg, SX.TD.isIface, SX.tails, SX.NotAgg, SX.evLookup, SX.evConvH, SX.evPtrEq, SX.isCells, SX.thaw, SX.frz, SX.fixB, SX.rootIx, SX.Froz, SX.frzStep, SX.fork, Go.Value.cells, Go.undef, cfg10, hM']
  refine ⟨by (unfold SX.Ob; first | trivial | omega | ((try simp only [SX.inK]); (try simp [SX.den, SX.IsU8, SX.AllP, *]); (try omega))), ?_⟩
  intro a5 w5 hr5 _
  have hC := hW.1
  obtain ⟨c1, c2, c3, c4, c5⟩ := cutsS_facts [f, t] hC.1
  have hlen := cutsS_len [f, t] L
  obtain ⟨C, hCd⟩ : ∃ C, cutsS [f, t] L = C := ⟨_, rfl⟩
  have hAI : RdI (fun _ => True) w5 (.slice (some ⟨sA, 0, none⟩) 2 2) [f, t] := RdI.lit2 hr5.all.1.1 (by simp [intC]) (by simp [intC])
  refine post_call 26 [.v (.slice ad L.length cp), .sl 0 sA 0 0 2 2 1] hr5 (by first | exact wanted_none rfl | exact wanted_zero (hr5.env.same rfl rfl rfl rfl) rfl (by simp)) rfl (callable 26 Try.func26) (cut_ok w5 _ _ L [f, t] (hL.below hr5.keeps.toBelow) hAI hC.ne (by omega) (by simp)) ?_
  rintro e6 w6 ⟨v6, rfl, hO6, hb6⟩
  refine ⟨_, rfl, ?_⟩
  have h6 := hr5.ret hb6 29 (.v v6) rfl _ (hr5.all.below hb6) (by simp) rfl
  rw [hCd] at hO6 c1 c2 c3 c4 c5 hlen
  simp only [List.length_cons, List.length_nil] at hlen
  have z5 : w.heap.size ≤ w5.heap.size := hr5.keeps.size
  have h6 := h6.see [] trivial
  refine seg cfg10_ok mixed PanicFree.body 1000 [] [] h6.rebase (by first | trivial | exact HpRep.nil | assumption) (by kernel_rfl) fun s_ hs_ => ?_
  simp (maxSteps := 10000000) [SX.vc, SX.stop, SX.contS, SX.contB, SX.contW, SX.contR, SX.contD, SX.sxStep, SX.stepPure, SX.stepNew, SX.stepStore, SX.stepKeep, SX.guardIx, SX.evOp, SX.opd, SX.opds, SX.optOpd, SX.look, SX.putS, SX.gobs, SX.AllP, SX.leave, SX.lookC, SX.lookB, SX.lookT, SX.lookN, SX.findK, SX.evBuiltin, SX.ints, SX.foldI, SX.evBin, SX.evInt, SX.evStr, SX.evEq, SX.arith, SX.evLoad, SX.shapeUp, SX.evFieldAddr, SX.evField, SX.evIndexAddr, SX.evIndex, SX.evFill, SX.evBuild, SX.szs, SX.cellsV, SX.evNew, SX.evStore, SX.spliceL, SX.SV.cells, SX.evConv, SX.evSlice, SX.bnd, SX.evNil, SX.evUn, SX.evPick, SX.pickOpd, SX.popTo, SX.cnd, SX.env0, SX.TD.isAgg, SX.TD.isIface, SX.tails, SX.NotAgg, SX.evLookup, SX.evConvH, SX.evPtrEq, SX.isCells, SX.thaw, SX.frz, SX.fixB, SX.rootIx, SX.Froz, SX.frzStep, SX.fork, Go.Value.cells, Go.undef, cfg10]
  refine ⟨by (unfold SX.Ob; first | trivial | omega | ((try simp only [SX.inK]); (try simp [SX.den, SX.IsU8, SX.AllP, *]); (try omega))), ?_⟩
  intro a7 w7 hr7' _
  have hr7 := h6.unbase hr7'
  have hO7 := (hO6.mono (P' := fun x => w.heap.size ≤ x) fun x _ h => by omega).keep hr7'.keeps (by simp [frameAt, mutB])
  refine post_call 27 [.v v6, .v (.int .i64 f)] hr7 (by first | exact wanted_none rfl | exact wanted_zero (hr7.env.same rfl rfl rfl rfl) rfl (by simp)) rfl (callable 27 Try.func27) (find_ok w7 v6 C f hO7.rd (by omega)) ?_
  rintro e8 w8 ⟨i, rfl, hi, hb8⟩
  refine ⟨_, rfl, ?_⟩
  have h8 := hr7.ret hb8 32 (.v (.int .i64 i)) rfl _ (hr7.all.below hb8) (by simp) rfl
  obtain ⟨j0, hj0, hin0⟩ := inS_some c1 hW.2.1 (by rw [c2]; have := hW.2.2.1; have := hW.2.2.2; omega)
  rcases hi with ⟨p, rfl, hp, hin, hno⟩ | ⟨rfl, hno⟩
  rotate_left
  · exact absurd hin0 (hno j0 hj0)
  have G : GivF C f t p := givF c1 (c5 f (by simp)) hp hin
  have hO8 := hO7.below hb8
  refine seg cfg10_ok mixed PanicFree.body 1000 [] [] h8.rebase (by first | trivial | exact HpRep.nil | assumption) (by kernel_rfl) fun s_ hs_ => ?_
  simp (maxSteps := 10000000) [SX.vc, SX.stop, SX.contS, SX.contB, SX.contW, SX.contR, SX.contD, SX.sxStep, SX.stepPure, SX.stepNew, SX.stepStore, SX.stepKeep, SX.guardIx, SX.evOp, SX.opd, SX.opds, SX.optOpd, SX.look, SX.putS, SX.gobs, SX.AllP, SX.leave, SX.lookC, SX.lookB, SX.lookT, SX.lookN, SX.findK, SX.evBuiltin, SX.ints, SX.foldI, SX.evBin, SX.evInt, SX.evStr, SX.evEq, SX.arith, SX.evLoad, SX.shapeUp, SX.evFieldAddr, SX.evField, SX.evIndexAddr, SX.evIndex, SX.evFill, SX.evBuild, SX.szs, SX.cellsV, SX.evNew, SX.evStore, SX.spliceL, SX.SV.cells, SX.evConv, SX.evSlice, SX.bnd, SX.evNil, SX.evUn, SX.evPick, SX.pickOpd, SX.popTo, SX.cnd, SX.env0, SX.TD.isAgg, SX.TD.isIface, SX.tails, SX.NotAgg, SX.evLookup, SX.evConvH, SX.evPtrEq, SX.isCells, SX.thaw, SX.frz, SX.fixB, SX.rootIx, SX.Froz, SX.frzStep, SX.fork, Go.Value.cells, Go.undef, cfg10]
  refine ⟨by (unfold SX.Ob; first | trivial | omega | ((try simp only [SX.inK]); (try simp [SX.den, SX.IsU8, SX.AllP, *]); (try omega))), ?_⟩
  intro a9 w9 hr9' _
  have hr9 := h8.unbase hr9'
  have hgid : ∀ j, j < p → giv f t o e (nth spn0 C j) = nth spn0 C j := fun j hj => if_neg fun h => G.pre j hj h.1
  have hmix0 : (C.take p).map (giv f t o e) ++ C.drop p = C := by
    refine nth_spn (by rw [mix_len]) fun j hj => ?_
    rw [mix_len] at hj
    rw [nth_mix (by omega) hj]
    split
    · exact hgid j ‹_›
    · rfl
  refine post_loop (GLoop w C f t o e p) (C.length - p) ⟨p, v6, rfl, Nat.le_refl _, by omega, fun j hj h => G.pre j hj h.1.1, by rw [hmix0]; exact hO8.keep hr9'.keeps (by simp [frameAt, mutB]), hr9.re (by simp [envTo, SX.look, den]) trivial rfl rfl⟩ ?_
  rintro m a10 w10 ⟨k, v', rfl, hpk, hk, hold, hO, hr10⟩
  have z10 : w.heap.size ≤ w10.heap.size := hr10.keeps.size
  obtain ⟨M, hM⟩ : ∃ M, (C.take k).map (giv f t o e) ++ C.drop k = M := ⟨_, rfl⟩
  have hMl : M.length = C.length := by rw [← hM, mix_len]
  rw [hM] at hO
  have hCw : cutsS [f, t] L = C := hCd
  have fin : (∀ j, k ≤ j → j < C.length → t < (nth spn0 C j).to) → giveE L f t o e = 0 ∧ giveL L f t o e = joinS M := fun h => by
    have h1 : oldS f t o e C = false := by
      rw [Bool.eq_false_iff]
      intro hc
      obtain ⟨s, hs, ho⟩ := oldS_iff.1 hc
      obtain ⟨j, hj, rfl⟩ := List.mem_iff_getElem.1 hs
      rw [← nth_lt (d := spn0) hj] at ho
      rcases Nat.lt_or_ge j k with h' | h'
      · exact hold j h' ho
      · have := h j h' hj
        have := ho.1.2
        omega
    have h2 : giveE L f t o e = 0 := by
      unfold giveE
      rw [if_pos ⟨hW, hM'⟩, hCw, h1]
      rfl
    refine ⟨h2, ?_⟩
    unfold giveL
    rw [h2, hCw, if_pos rfl, ← hM]
    congr 1
    refine nth_spn (by rw [mix_len]; simp) fun j hj => ?_
    have hj' : j < C.length := by simpa using hj
    rw [nth_mix hk hj', nth_map (d := spn0) hj']
    split
    · rfl
    · exact if_neg fun h' => by
        have := h j (by omega) hj'
        have := h'.2
        omega
  by_cases hlt : k < C.length
  · obtain ⟨b, N, cap, u, row, hP', rfl, hc0, hc1, hc2, hrep', hrow⟩ := hO.opn (show k < M.length by omega)
    obtain ⟨y, hy⟩ : ∃ y, nth spn0 C k = y := ⟨_, rfl⟩
    have hMk : nth spn0 M k = y := by rw [← hM, nth_mix hk hlt, if_neg (by omega), hy]
    have hrk : row k = [.v (.int .i64 y.fr), .v (.int .i64 y.to), .v (.int .i64 y.ow), .v (.int .i64 y.ep)] := by rw [hrow k (by omega), hMk]; rfl
    have hkN : k < N := by omega
    rw [hMl] at hr10 hc1
    have h11 := (hr10.top 12 (.sl 0 b 0 0 C.length cap 4) rfl (by simp [den])).see [(b, true, .arr 0 N row 4 u (0, 0))] ⟨⟨hrep', fun _ => .inl hP', by simp⟩, trivial⟩
    by_cases hyt : y.to ≤ t
    rotate_left
    · obtain ⟨f1, f2⟩ := fin fun j hj hl => G.post k j hj hl (by rw [hy]; omega)
      refine seg cfg10_ok mixed PanicFree.body 1000 [false] [(37, true)] h11.rebase (by first | trivial | exact HpRep.nil | assumption) (by kernel_rfl) fun s_ hs_ => ?_
      simp (maxSteps := 10000000) [SX.vc, SX.stop, SX.contS, SX.contB, SX.contW, SX.contR, SX.contD, SX.sxStep, SX.stepPure, SX.stepNew, SX.stepStore, SX.stepKeep, SX.guardIx, SX.evOp, SX.opd, SX.opds, SX.optOpd, SX.look, SX.putS, SX.gobs, SX.AllP, SX.leave, SX.lookC, SX.lookB, SX.lookT, SX.lookN, SX.findK, SX.evBuiltin, SX.ints, SX.foldI, SX.evBin, SX.evInt, SX.evStr, SX.evEq, SX.arith, SX.evLoad, SX.shapeUp, SX.evFieldAddr, SX.evField, SX.evIndexAddr, SX.evIndex, SX.evFill, SX.evBuild, SX.szs, SX.cellsV, SX.evNew, SX.evStore, SX.spliceL, SX.SV.cells, SX.evConv, SX.evSlice, SX.bnd, SX.evNil, SX.evUn, SX.evPick, SX.pickOpd, SX.popTo, SX.cnd, SX.env0, SX.TD.isAgg, SX.TD.isIface, SX.tails, SX.NotAgg, SX.evLookup, SX.evConvH, SX.evPtrEq, SX.isCells, SX.thaw, SX.frz, SX.fixB, SX.rootIx, SX.Froz, SX.frzStep, SX.fork, Go.Value.cells, Go.undef, cfg10, hrk, hyt, hlt]
      refine ⟨by (unfold SX.Ob; first | trivial | omega | ((try simp only [SX.inK]); (try simp [SX.den, SX.IsU8, SX.AllP, *]); (try omega))), ?_⟩
      intro a12 w12 hr12' _
      have hr12 := h11.unbase hr12'
      have hO12 : OwP (fun z => w.heap.size ≤ z) w12 (.slice (some ⟨b, 0, none⟩) C.length cap) M := .inr ⟨b, N, cap, u, row, hP', by rw [hMl], hc0, by omega, hc2, hr12.all.1.1, hrow⟩
      refine post_call 28 [.sl 0 b 0 0 C.length cap 4] hr12 (by first | exact wanted_none rfl | exact wanted_zero (hr12.env.same rfl rfl rfl rfl) rfl (by simp)) rfl (callable 28 Try.func28) (join_ok w12 (.slice (some ⟨b, 0, none⟩) C.length cap) M hO12.rd (by omega)) ?_
      rintro e13 w13 ⟨v13, rfl, hO13, hb13⟩
      refine ⟨_, rfl, ?_⟩
      have h13' := hr12.ret hb13 78 (.v v13) rfl _ (hr12.all.below hb13) (by simp) rfl
      have z12 : w.heap.size ≤ w12.heap.size := hr12.keeps.size
      have h13 := h13'.see [] trivial
      refine seg cfg10_ok mixed PanicFree.body 1000 [] [] h13.rebase (by first | trivial | exact HpRep.nil | assumption) (by kernel_rfl) fun s_ hs_ => ?_
      simp (maxSteps := 10000000) [SX.vc, SX.stop, SX.contS, SX.contB, SX.contW, SX.contR, SX.contD, SX.sxStep, SX.stepPure, SX.stepNew, SX.stepStore, SX.stepKeep, SX.guardIx, SX.evOp, SX.opd, SX.opds, SX.optOpd, SX.look, SX.putS, SX.gobs, SX.AllP, SX.leave, SX.lookC, SX.lookB, SX.lookT, SX.lookN, SX.findK, SX.evBuiltin, SX.ints, SX.foldI, SX.evBin, SX.evInt, SX.evStr, SX.evEq, SX.arith, SX.evLoad, SX.shapeUp, SX.evFieldAddr, SX.evField, SX.evIndexAddr, SX.evIndex, SX.evFill, SX.evBuild, SX.szs, SX.cellsV, SX.evNew, SX.evStore, SX.spliceL, SX.SV.cells, SX.evConv, SX.evSlice, SX.bnd, SX.evNil, SX.evUn, SX.evPick, SX.pickOpd, SX.popTo, SX.cnd, SX.env0, SX.TD.isAgg, SX.TD.isIface, SX.tails, SX.NotAgg, SX.evLookup, SX.evConvH, SX.evPtrEq, SX.isCells, SX.thaw, SX.frz, SX.fixB, SX.rootIx, SX.Froz, SX.frzStep, SX.fork, Go.Value.cells, Go.undef, cfg10]
      refine ⟨by (unfold SX.Ob; first | trivial | omega | ((try simp only [SX.inK]); (try simp [SX.den, SX.IsU8, SX.AllP, *]); (try omega))), ?_⟩
      intro a14 w14 hr14' _
      have hr14 := h13.unbase hr14'
      exact post_retn (end2 hr14 rfl rfl rfl ⟨v13, by rw [f1]; simp [den, denL], by rw [f2]; exact (hO13.mono (P' := fun x => w.heap.size ≤ x) fun x _ h => by omega).keep hr14'.keeps (by simp [frameAt, mutB]), hr14.keeps.toBelow⟩).1
    have hgy : Giv f t y := ⟨hy ▸ G.mid k hpk hlt, hyt⟩
    have nxt : ∀ (a12 : Act) (w12 : World) (row' : Nat → List SV), ¬ Old f t o e y → (SO.arr 0 N row' 4 u (0, 0)).rep w12 b → (row' = setRow row k (spnC { y with ow := o, ep := e })) → RepX (frame0 w) ⟨[(13, 0, .v (.int .i64 ((k + 1 : Nat) : Int))), (12, 0, .v (.slice (some ⟨b, 0, none⟩) C.length cap)), (2, 0, .v (.int .i64 t)), (3, 0, .v (.int .i64 o)), (4, 0, .v (.int .i64 e)), (10, 0, .v (.slice none 0 0)), (11, 0, .v (.int .i64 0))], [], 0, 0, 79, [], [], []⟩ a12 w12 → GLoop w C f t o e p (C.length - (k + 1)) a12 w12 := fun a12 w12 row' hno hrep2 hrow2 hr12 => by
      refine ⟨k + 1, _, rfl, by omega, by omega, fun j hj => ?_, .inr ⟨b, N, cap, u, row', hP', by rw [mix_len], hc0, by rw [mix_len]; omega, hc2, hrep2, fun j hj => ?_⟩, hr12⟩
      · rcases Nat.lt_or_ge j k with h | h
        · exact hold j h
        · obtain rfl : j = k := by omega
          rw [hy]; exact hno
      · rw [mix_len] at hj
        rw [nth_mix (by omega) hj, hrow2]
        unfold setRow
        by_cases hjk : j = k
        · subst hjk
          rw [if_pos rfl, if_pos (by omega), hy, giv, if_pos hgy]
        · rw [if_neg hjk, hrow j (by omega), ← hM, nth_mix hk hj]
          by_cases hjl : j < k
          · rw [if_pos hjl, if_pos (by omega)]
          · rw [if_neg hjl, if_neg (by omega)]
    by_cases ho : o = -1
    · subst ho
      refine seg cfg10_ok mixed PanicFree.body 1000 [true, false] [(37, true), (50, false), (58, false)] h11.rebase (by first | trivial | exact HpRep.nil | assumption) (by kernel_rfl) fun s_ hs_ => ?_
      simp (maxSteps := 10000000) [SX.vc, SX.stop, SX.contS, SX.contB, SX.contW, SX.contR, SX.contD, SX.sxStep, SX.stepPure, SX.stepNew, SX.stepStore, SX.stepKeep, SX.guardIx, SX.evOp, SX.opd, SX.opds, SX.optOpd, SX.look, SX.putS, SX.gobs, SX.AllP, SX.leave, SX.lookC, SX.lookB, SX.lookT, SX.lookN, SX.findK, SX.evBuiltin, SX.ints, SX.foldI, SX.evBin, SX.evInt, SX.evStr, SX.evEq, SX.arith, SX.evLoad, SX.shapeUp, SX.evFieldAddr, SX.evField, SX.evIndexAddr, SX.evIndex, SX.evFill, SX.evBuild, SX.szs, SX.cellsV, SX.evNew, SX.evStore, SX.spliceL, SX.SV.cells, SX.evConv, SX.evSlice, SX.bnd, SX.evNil, SX.evUn, SX.evPick, SX.pickOpd, SX.popTo, SX.cnd, SX.env0, SX.TD.isAgg, SX.TD.isIface, SX.tails, SX.NotAgg, SX.evLookup, SX.evConvH, SX.evPtrEq, SX.isCells, SX.thaw, SX.frz, SX.fixB, SX.rootIx, SX.Froz, SX.frzStep, SX.fork, Go.Value.cells, Go.undef, cfg10, hrk, hyt, hlt]
      refine ⟨by (unfold SX.Ob; first | trivial | omega | ((try simp only [SX.inK]); (try simp [SX.den, SX.IsU8, SX.AllP, *]); (try omega))), ?_⟩
      intro a12 w12 hr12' _
      have hr12 := h11.unbase hr12'
      exact post_rnd (C.length - (k + 1)) (by omega) (nxt _ _ _ (fun h => h.2.1 rfl) hr12.all.1.1 (by simp [spnC, setRow_same, setRow_two]) (hr12.re (by simp [envTo, SX.look, den]) trivial rfl rfl))
    by_cases hw : y.ow = -1
    · refine seg cfg10_ok mixed PanicFree.body 1000 [true, false] [(37, true), (50, true), (58, false)] h11.rebase (by first | trivial | exact HpRep.nil | assumption) (by kernel_rfl) fun s_ hs_ => ?_
      simp (maxSteps := 10000000) [SX.vc, SX.stop, SX.contS, SX.contB, SX.contW, SX.contR, SX.contD, SX.sxStep, SX.stepPure, SX.stepNew, SX.stepStore, SX.stepKeep, SX.guardIx, SX.evOp, SX.opd, SX.opds, SX.optOpd, SX.look, SX.putS, SX.gobs, SX.AllP, SX.leave, SX.lookC, SX.lookB, SX.lookT, SX.lookN, SX.findK, SX.evBuiltin, SX.ints, SX.foldI, SX.evBin, SX.evInt, SX.evStr, SX.evEq, SX.arith, SX.evLoad, SX.shapeUp, SX.evFieldAddr, SX.evField, SX.evIndexAddr, SX.evIndex, SX.evFill, SX.evBuild, SX.szs, SX.cellsV, SX.evNew, SX.evStore, SX.spliceL, SX.SV.cells, SX.evConv, SX.evSlice, SX.bnd, SX.evNil, SX.evUn, SX.evPick, SX.pickOpd, SX.popTo, SX.cnd, SX.env0, SX.TD.isAgg, SX.TD.isIface, SX.tails, SX.NotAgg, SX.evLookup, SX.evConvH, SX.evPtrEq, SX.isCells, SX.thaw, SX.frz, SX.fixB, SX.rootIx, SX.Froz, SX.frzStep, SX.fork, Go.Value.cells, Go.undef, cfg10, hrk, hyt, hlt, ho, hw]
      refine ⟨by (unfold SX.Ob; first | trivial | omega | ((try simp only [SX.inK]); (try simp [SX.den, SX.IsU8, SX.AllP, *]); (try omega))), ?_⟩
      intro a12 w12 hr12' _
      have hr12 := h11.unbase hr12'
      exact post_rnd (C.length - (k + 1)) (by omega) (nxt _ _ _ (fun h => h.2.2.1 hw) hr12.all.1.1 (by simp [spnC, setRow_same, setRow_two]) (hr12.re (by simp [envTo, SX.look, den]) trivial rfl rfl))
    by_cases hep : e ≤ y.ep
    · refine seg cfg10_ok mixed PanicFree.body 1000 [true, true] [(37, true), (50, true), (58, true)] h11.rebase (by first | trivial | exact HpRep.nil | assumption) (by kernel_rfl) fun s_ hs_ => ?_
      simp (maxSteps := 10000000) [SX.vc, SX.stop, SX.contS, SX.contB, SX.contW, SX.contR, SX.contD, SX.sxStep, SX.stepPure, SX.stepNew, SX.stepStore, SX.stepKeep, SX.guardIx, SX.evOp, SX.opd, SX.opds, SX.optOpd, SX.look, SX.putS, SX.gobs, SX.AllP, SX.leave, SX.lookC, SX.lookB, SX.lookT, SX.lookN, SX.findK, SX.evBuiltin, SX.ints, SX.foldI, SX.evBin, SX.evInt, SX.evStr, SX.evEq, SX.arith, SX.evLoad, SX.shapeUp, SX.evFieldAddr, SX.evField, SX.evIndexAddr, SX.evIndex, SX.evFill, SX.evBuild, SX.szs, SX.cellsV, SX.evNew, SX.evStore, SX.spliceL, SX.SV.cells, SX.evConv, SX.evSlice, SX.bnd, SX.evNil, SX.evUn, SX.evPick, SX.pickOpd, SX.popTo, SX.cnd, SX.env0, SX.TD.isAgg, SX.TD.isIface, SX.tails, SX.NotAgg, SX.evLookup, SX.evConvH, SX.evPtrEq, SX.isCells, SX.thaw, SX.frz, SX.fixB, SX.rootIx, SX.Froz, SX.frzStep, SX.fork, Go.Value.cells, Go.undef, cfg10, hrk, hyt, hlt, ho, hw, hep]
      refine ⟨by (unfold SX.Ob; first | trivial | omega | ((try simp only [SX.inK]); (try simp [SX.den, SX.IsU8, SX.AllP, *]); (try omega))), ?_⟩
      intro a12 w12 hr12' _
      have hr12 := h11.unbase hr12'
      have h1 : oldS f t o e C = true := oldS_iff.2 ⟨_, nth_mem (d := spn0) hlt, hy ▸ ⟨hgy, ho, hw, hep⟩⟩
      have f1 : giveE L f t o e = 61 := by
        unfold giveE
        rw [if_pos ⟨hW, hM'⟩, hCw, h1]
        rfl
      have f2 : giveL L f t o e = [] := by
        unfold giveL
        rw [f1]
        rfl
      exact post_retn (end2 hr12 rfl rfl rfl ⟨.slice none 0 0, by rw [f1]; simp [den, denL], by rw [f2]; exact OwS.nil, hr12.keeps.toBelow⟩).1
    · refine seg cfg10_ok mixed PanicFree.body 1000 [true, false] [(37, true), (50, true), (58, true)] h11.rebase (by first | trivial | exact HpRep.nil | assumption) (by kernel_rfl) fun s_ hs_ => ?_
      simp (maxSteps := 10000000) [SX.vc, SX.stop, SX.contS, SX.contB, SX.contW, SX.contR, SX.contD, SX.sxStep, SX.stepPure, SX.stepNew, SX.stepStore, SX.stepKeep, SX.guardIx, SX.evOp, SX.opd, SX.opds, SX.optOpd, SX.look, SX.putS, SX.gobs, SX.AllP, SX.leave, SX.lookC, SX.lookB, SX.lookT, SX.lookN, SX.findK, SX.evBuiltin, SX.ints, SX.foldI, SX.evBin, SX.evInt, SX.evStr, SX.evEq, SX.arith, SX.evLoad, SX.shapeUp, SX.evFieldAddr, SX.evField, SX.evIndexAddr, SX.evIndex, SX.evFill, SX.evBuild, SX.szs, SX.cellsV, SX.evNew, SX.evStore, SX.spliceL, SX.SV.cells, SX.evConv, SX.evSlice, SX.bnd, SX.evNil, SX.evUn, SX.evPick, SX.pickOpd, SX.popTo, SX.cnd, SX.env0, SX.TD.isAgg, SX.TD.isIface, SX.tails, SX.NotAgg, SX.evLookup, SX.evConvH, SX.evPtrEq, SX.isCells, SX.thaw, SX.frz, SX.fixB, SX.rootIx, SX.Froz, SX.frzStep, SX.fork, Go.Value.cells, Go.undef, cfg10, hrk, hyt, hlt, ho, hw, hep]
      refine ⟨by (unfold SX.Ob; first | trivial | omega | ((try simp only [SX.inK]); (try simp [SX.den, SX.IsU8, SX.AllP, *]); (try omega))), ?_⟩
      intro a12 w12 hr12' _
      have hr12 := h11.unbase hr12'
      exact post_rnd (C.length - (k + 1)) (by omega) (nxt _ _ _ (fun h => hep h.2.2.2) hr12.all.1.1 (by simp [spnC, setRow_same, setRow_two]) (hr12.re (by simp [envTo, SX.look, den]) trivial rfl rfl))
  · obtain rfl : k = C.length := by omega
    obtain ⟨f1, f2⟩ := fin fun j hj hl => by omega
    obtain ⟨vd, vc, rfl⟩ := hO.slice
    rw [hMl] at hr10
    refine seg cfg10_ok mixed PanicFree.body 1000 [false] [(37, false)] hr10.rebase (by first | trivial | exact HpRep.nil | assumption) (by kernel_rfl) fun s_ hs_ => ?_
    simp (maxSteps := 10000000) [SX.vc, SX.stop, SX.contS, SX.contB, SX.contW, SX.contR, SX.contD, SX.sxStep, SX.stepPure, SX.stepNew, SX.stepStore, SX.stepKeep, SX.guardIx, SX.evOp, SX.opd, SX.opds, SX.optOpd, SX.look, SX.putS, SX.gobs, SX.AllP, SX.leave, SX.lookC, SX.lookB, SX.lookT, SX.lookN, SX.findK, SX.evBuiltin, SX.ints, SX.foldI, SX.evBin, SX.evInt, SX.evStr, SX.evEq, SX.arith, SX.evLoad, SX.shapeUp, SX.evFieldAddr, SX.evField, SX.evIndexAddr, SX.evIndex, SX.evFill, SX.evBuild, SX.szs, SX.cellsV, SX.evNew, SX.evStore, SX.spliceL, SX.SV.cells, SX.evConv, SX.evSlice, SX.bnd, SX.evNil, SX.evUn, SX.evPick, SX.pickOpd, SX.popTo, SX.cnd, SX.env0, SX.TD.isAgg, SX.TD.isIface, SX.tails, SX.NotAgg, SX.evLookup, SX.evConvH, SX.evPtrEq, SX.isCells, SX.thaw, SX.frz, SX.fixB, SX.rootIx, SX.Froz, SX.frzStep, SX.fork, Go.Value.cells, Go.undef, cfg10]
    refine ⟨by (unfold SX.Ob; first | trivial | omega | ((try simp only [SX.inK]); (try simp [SX.den, SX.IsU8, SX.AllP, *]); (try omega))), ?_⟩
    intro a12 w12 hr12' _
    have hr12 := hr10.unbase hr12'
    have hO12 := hO.keep hr12'.keeps (by simp [frameAt, mutB])
    rw [hMl] at hO12
    refine post_call 28 [.v (.slice vd C.length vc)] hr12 (by first | exact wanted_none rfl | exact wanted_zero (hr12.env.same rfl rfl rfl rfl) rfl (by simp)) rfl (callable 28 Try.func28) (join_ok w12 (.slice vd C.length vc) M hO12.rd (by omega)) ?_
    rintro e13 w13 ⟨v13, rfl, hO13, hb13⟩
    refine ⟨_, rfl, ?_⟩
    have h13' := hr12.ret hb13 78 (.v v13) rfl _ (hr12.all.below hb13) (by simp) rfl
    have z12 : w.heap.size ≤ w12.heap.size := hr12.keeps.size
    have h13 := h13'.see [] trivial
    refine seg cfg10_ok mixed PanicFree.body 1000 [] [] h13.rebase (by first | trivial | exact HpRep.nil | assumption) (by kernel_rfl) fun s_ hs_ => ?_
    simp (maxSteps := 10000000) [SX.vc, SX.stop, SX.contS, SX.contB, SX.contW, SX.contR, SX.contD, SX.sxStep, SX.stepPure, SX.stepNew, SX.stepStore, SX.stepKeep, SX.guardIx, SX.evOp, SX.opd, SX.opds, SX.optOpd, SX.look, SX.putS, SX.gobs, SX.AllP, SX.leave, SX.lookC, SX.lookB, SX.lookT, SX.lookN, SX.findK, SX.evBuiltin, SX.ints, SX.foldI, SX.evBin, SX.evInt, SX.evStr, SX.evEq, SX.arith, SX.evLoad, SX.shapeUp, SX.evFieldAddr, SX.evField, SX.evIndexAddr, SX.evIndex, SX.evFill, SX.evBuild, SX.szs, SX.cellsV, SX.evNew, SX.evStore, SX.spliceL, SX.SV.cells, SX.evConv, SX.evSlice, SX.bnd, SX.evNil, SX.evUn, SX.evPick, SX.pickOpd, SX.popTo, SX.cnd, SX.env0, SX.TD.isAgg, SX.TD.isIface, SX.tails, SX.NotAgg, SX.evLookup, SX.evConvH, SX.evPtrEq, SX.isCells, SX.thaw, SX.frz, SX.fixB, SX.rootIx, SX.Froz, SX.frzStep, SX.fork, Go.Value.cells, Go.undef, cfg10]
    refine ⟨by (unfold SX.Ob; first | trivial | omega | ((try simp only [SX.inK]); (try simp [SX.den, SX.IsU8, SX.AllP, *]); (try omega))), ?_⟩
    intro a14 w14 hr14' _
    have hr14 := h13.unbase hr14'
    exact post_retn (end2 hr14 rfl rfl rfl ⟨v13, by rw [f1]; simp [den, denL], by rw [f2]; exact (hO13.mono (P' := fun x => w.heap.size ≤ x) fun x _ h => by omega).keep hr14'.keeps (by simp [frameAt, mutB]), hr14.keeps.toBelow⟩).1
end Go.Proofs
