/- Requests: what is known of one; find, said, Ask. -/
import Derived.Test.YtffooiccklfhlaaNB
import Derived.Test.YtffooiccklfhlaaNC
import Derived.Test.YtffooiccklfhlaaND
namespace Go.Proofs
set_option linter.unusedVariables false
set_option linter.unusedSimpArgs false
set_option linter.unusedSectionVars false
open Go Go.SX Go.RowKit

theorem chkS_pw : ∀ {S : List Sad} {b : Int}, ChkS b S ↔ (∀ x ∈ S, b ≤ x.id) ∧ S.Pairwise (fun x y => x.id < y.id)
  | [], b => by simp [ChkS]
  | x :: r, b => by
    rw [ChkS, chkS_pw, List.pairwise_cons]
    constructor
    · rintro ⟨h1, h2, h3⟩
      refine ⟨fun y hy => ?_, fun y hy => by have := h2 y hy; omega, h3⟩
      rcases List.mem_cons.1 hy with rfl | hy
      · exact h1
      · have := h2 y hy; omega
    · rintro ⟨h1, h2, h3⟩
      exact ⟨h1 x List.mem_cons_self, fun y hy => by have := h2 y hy; omega, h3⟩
def OkN (s : Sen) : Prop := 0 ≤ s.frm ∧ 0 ≤ s.below ∧ s.S.length ≤ 8 ∧ ChkS s.below s.S
theorem chkN_pw : ∀ {L : List Sen} {p : Int}, ChkN p L ↔ (∀ s ∈ L, OkN s ∧ p < s.frm) ∧ L.Pairwise (fun x y => x.frm < y.frm)
  | [], p => by simp [ChkN]
  | s :: r, p => by
    rw [ChkN, chkN_pw, List.pairwise_cons]
    constructor
    · rintro ⟨h0, h1, h2, h3⟩
      refine ⟨fun y hy => ?_, fun y hy => (h2 y hy).2, h3⟩
      rcases List.mem_cons.1 hy with rfl | hy
      · exact ⟨⟨h0.1, h0.2.2.1, h0.2.2.2, h1⟩, h0.2.1⟩
      · exact ⟨(h2 y hy).1, by have := (h2 y hy).2; have := h0.2.1; omega⟩
    · rintro ⟨h1, h2, h3⟩
      have := h1 s List.mem_cons_self
      exact ⟨⟨this.1.1, this.2, this.1.2.1, this.1.2.2.1⟩, this.1.2.2.2, fun y hy => ⟨(h1 y (List.mem_cons_of_mem _ hy)).1, h2 y hy⟩, h3⟩
theorem chkN_srt {L : List Sen} {p : Int} (h : ChkN p L) : Sn.Srt L := fun i j hij hj => by
  rw [nth_lt (by omega), nth_lt hj]
  exact List.pairwise_iff_getElem.1 (chkN_pw.1 h).2 i j (by omega) hj hij
theorem chkS_srt {S : List Sad} {b : Int} (h : ChkS b S) : Sd.Srt S := fun i j hij hj => by
  rw [nth_lt (by omega), nth_lt hj]
  exact List.pairwise_iff_getElem.1 (chkS_pw.1 h).2 i j (by omega) hj hij

/-- What is known of one; the answer to a request. -/
def ofN (L : List Sen) (f : Int) : Option Sen := L.find? fun s => decide (s.frm = f)
def ansS (S : List Sad) (i : Int) : Option Sad := S.find? fun x => decide (x.id = i)
theorem ofN_some {L : List Sen} {f : Int} {s : Sen} (h : ofN L f = some s) : s ∈ L ∧ s.frm = f := ⟨List.mem_of_find?_eq_some h, by simpa using List.find?_some h⟩
theorem ansS_some {S : List Sad} {i : Int} {x : Sad} (h : ansS S i = some x) : x ∈ S ∧ x.id = i := ⟨List.mem_of_find?_eq_some h, by simpa using List.find?_some h⟩
theorem ofN_mem : ∀ {L : List Sen} {s : Sen}, L.Pairwise (fun x y => x.frm < y.frm) → s ∈ L → ofN L s.frm = some s
  | [], _, _, h => by simp at h
  | t :: r, s, hp, h => by
    rw [List.pairwise_cons] at hp
    unfold ofN
    rcases List.mem_cons.1 h with rfl | h'
    · rw [List.find?_cons_of_pos (by simp)]
    · have := hp.1 s h'
      rw [List.find?_cons_of_neg (by simp; omega)]
      exact ofN_mem hp.2 h'
theorem ansS_mem : ∀ {L : List Sad} {s : Sad}, L.Pairwise (fun x y => x.id < y.id) → s ∈ L → ansS L s.id = some s
  | [], _, _, h => by simp at h
  | t :: r, s, hp, h => by
    rw [List.pairwise_cons] at hp
    unfold ansS
    rcases List.mem_cons.1 h with rfl | h'
    · rw [List.find?_cons_of_pos (by simp)]
    · have := hp.1 s h'
      rw [List.find?_cons_of_neg (by simp; omega)]
      exact ansS_mem hp.2 h'
theorem ofN_none {L : List Sen} {f : Int} : ofN L f = none ↔ ∀ s ∈ L, s.frm ≠ f := by simp [ofN]
theorem ansS_none {S : List Sad} {i : Int} : ansS S i = none ↔ ∀ x ∈ S, x.id ≠ i := by simp [ansS]
theorem ofN_at {L : List Sen} {p : Int} (h : ChkN p L) {i : Nat} (hi : i < L.length) {s : Sen} (hs : nth sen0 L i = s) : ofN L s.frm = some s := ofN_mem (chkN_pw.1 h).2 (hs ▸ nth_mem hi)
theorem ofN_no {L : List Sen} {p : Int} (h : ChkN p L) {i : Nat} {f : Int} (hp : Sn.PlaceP L f i) (ha : Sn.isAt L f i = false) : ofN L f = none := ofN_none.2 fun s hs => by
  obtain ⟨j, hj, rfl⟩ := List.mem_iff_getElem.1 hs
  obtain ⟨h1, h2⟩ := hp.2 (chkN_srt h)
  have h3 : ¬ (i < L.length ∧ (nth sen0 L i).frm = f) := by simpa [Sn.isAt] using ha
  rw [← nth_lt (d := sen0) hj]
  intro he
  rcases Nat.lt_trichotomy j i with h4 | h4 | h4
  · have := h1 j h4; omega
  · exact h3 ⟨by omega, by rw [← h4]; exact he⟩
  · have h5 := h2 i (Nat.le_refl _) (by omega)
    have h6 := chkN_srt h i j h4 hj
    omega
theorem ansS_at {S : List Sad} {b : Int} (h : ChkS b S) {i : Nat} (hi : i < S.length) {x : Sad} (hs : nth sad0 S i = x) : ansS S x.id = some x := ansS_mem (chkS_pw.1 h).2 (hs ▸ nth_mem hi)
theorem ansS_no {L : List Sad} {p : Int} (h : ChkS p L) {i : Nat} {f : Int} (hp : Sd.PlaceP L f i) (ha : Sd.isAt L f i = false) : ansS L f = none := ansS_none.2 fun s hs => by
  obtain ⟨j, hj, rfl⟩ := List.mem_iff_getElem.1 hs
  obtain ⟨h1, h2⟩ := hp.2 (chkS_srt h)
  have h3 : ¬ (i < L.length ∧ (nth sad0 L i).id = f) := by simpa [Sd.isAt] using ha
  rw [← nth_lt (d := sad0) hj]
  intro he
  rcases Nat.lt_trichotomy j i with h4 | h4 | h4
  · have := h1 j h4; omega
  · exact h3 ⟨by omega, by rw [← h4]; exact he⟩
  · have h5 := h2 i (Nat.le_refl _) (by omega)
    have h6 := chkS_srt h i j h4 hj
    omega

/-- What a request is: 0 new, 1 old, 2 gone; and its answer. -/
def askK (L : List Sen) (f i : Int) : Int :=
  if i < 0 ∨ ¬ ChkN (-1) L then 2 else match ofN L f with
    | none => 0
    | some s => if i < s.below then 2 else match ansS s.S i with
      | none => 0
      | some _ => 1
def askM (L : List Sen) (f i : Int) : Mg :=
  if i < 0 ∨ ¬ ChkN (-1) L then mg0 else match ofN L f with
    | none => mg0
    | some s => if i < s.below then mg0 else match ansS s.S i with
      | none => mg0
      | some x => x.m
def AskR (w : World) (L : List Sen) (f i : Int) (e : Ending) (w' : World) : Prop := e = .returned (den (.tu [.ag (mgC (askM L f i)), .v (.int .i64 (askK L f i))])) ∧ Below w.heap.size w w'

set_option maxRecDepth 100000 in
set_option maxHeartbeats 8000000 in
/-- find. -/
theorem find_ok {P : Nat → Prop} (w : World) (v : Value) (L : List Sen) (y : Int) (hL : RdN P w v L) (hn : L.length ≤ 1000000000000000) : Calls Try.prog 16 (denL [.v v, .v (.int .i64 y)]).toArray w (Sn.BinR w L y) := by
  refine enter (F := frame0 w) Try.func16 rfl [.v v, .v (.int .i64 y)] [] (by simp [Try.f16]) trivial (keeps0 w) fun a hr => ?_
  refine seg cfg16_ok mixed PanicFree.body 1000 [] [] hr (by first | trivial | exact HpRep.nil | assumption) (by kernel_rfl) fun s_ hs_ => ?_
  simp (maxSteps := 10000000) [SX.vc, SX.stop, SX.contS, SX.contB, SX.contW, SX.contR, SX.contD, SX.sxStep, SX.stepPure, SX.stepNew, SX.stepStore, SX.stepKeep, SX.guardIx, SX.evOp, SX.opd, SX.opds, SX.optOpd, SX.look, SX.putS, SX.gobs, SX.AllP, SX.leave, SX.lookC, SX.lookB, SX.lookT, SX.lookN, SX.findK, SX.evBuiltin, SX.ints, SX.foldI, SX.evBin, SX.evInt, SX.evStr, SX.evEq, SX.arith, SX.evLoad, SX.shapeUp, SX.evFieldAddr, SX.evField, SX.evIndexAddr, SX.evIndex, SX.evFill, SX.evBuild, SX.szs, SX.cellsV, SX.evNew, SX.evStore, SX.spliceL, SX.SV.cells, SX.evConv, SX.evSlice, SX.bnd, SX.evNil, SX.evUn, SX.evPick, SX.pickOpd, SX.popTo, SX.cnd, SX.env0, SX.TD.isAgg, SX.TD.isIface, SX.tails, SX.NotAgg, SX.evLookup, SX.evConvH, SX.evPtrEq, SX.isCells, SX.thaw, SX.frz, SX.fixB, SX.rootIx, SX.Froz, SX.frzStep, SX.fork, Go.Value.cells, Go.undef, cfg16, Try.f16]
  refine ⟨by (unfold SX.Ob; first | trivial | omega | ((try simp only [SX.inK]); (try simp [SX.den, SX.IsU8, SX.AllP, *]); (try omega))), ?_⟩
  intro a1 w1 hr1 _
  refine post_call 31 [.v v, .v (.int .i64 y), .fn (.func 32) [] []] hr1 (by first | exact wanted_none rfl | exact wanted_zero (hr1.env.same rfl rfl rfl rfl) rfl (by simp) | exact wanted_zero (hr1.env.same rfl rfl rfl rfl) rfl (by simp [*])) rfl (callable 31 Try.func31) (Sn.bin_ok w1 v L y (hL.below hr1.keeps.toBelow) hn) ?_
  rintro e2 w2 ⟨i, rfl, hp, hb2⟩
  refine ⟨_, rfl, ?_⟩
  have h2 := hr1.ret hb2 8 (.tu [.v (.int .i64 i), .v (.bool (Sn.isAt L y i))]) rfl _ (hr1.all.below hb2) (by simp) rfl
  refine seg cfg16_ok mixed PanicFree.body 1000 [] [] h2 (by first | trivial | exact HpRep.nil | assumption) (by kernel_rfl) fun s_ hs_ => ?_
  simp (maxSteps := 10000000) [SX.vc, SX.stop, SX.contS, SX.contB, SX.contW, SX.contR, SX.contD, SX.sxStep, SX.stepPure, SX.stepNew, SX.stepStore, SX.stepKeep, SX.guardIx, SX.evOp, SX.opd, SX.opds, SX.optOpd, SX.look, SX.putS, SX.gobs, SX.AllP, SX.leave, SX.lookC, SX.lookB, SX.lookT, SX.lookN, SX.findK, SX.evBuiltin, SX.ints, SX.foldI, SX.evBin, SX.evInt, SX.evStr, SX.evEq, SX.arith, SX.evLoad, SX.shapeUp, SX.evFieldAddr, SX.evField, SX.evIndexAddr, SX.evIndex, SX.evFill, SX.evBuild, SX.szs, SX.cellsV, SX.evNew, SX.evStore, SX.spliceL, SX.SV.cells, SX.evConv, SX.evSlice, SX.bnd, SX.evNil, SX.evUn, SX.evPick, SX.pickOpd, SX.popTo, SX.cnd, SX.env0, SX.TD.isAgg, SX.TD.isIface, SX.tails, SX.NotAgg, SX.evLookup, SX.evConvH, SX.evPtrEq, SX.isCells, SX.thaw, SX.frz, SX.fixB, SX.rootIx, SX.Froz, SX.frzStep, SX.fork, Go.Value.cells, Go.undef, cfg16]
  refine ⟨by (unfold SX.Ob; first | trivial | omega | ((try simp only [SX.inK]); (try simp [SX.den, SX.IsU8, SX.AllP, *]); (try omega))), ?_⟩
  intro a3 w3 hr3 _
  exact post_retn (end2 hr3 rfl rfl rfl ⟨i, rfl, hp, hr3.keeps.toBelow⟩).1

set_option maxRecDepth 100000 in
set_option maxHeartbeats 8000000 in
/-- said. -/
theorem said_ok {P : Nat → Prop} (w : World) (s : Sen) (y : Int) (hL : RdA P w (.slice s.ad s.S.length s.cp) s.S) (hn : s.S.length ≤ 1000000000000000) : Calls Try.prog 17 (denL [.ag (senC s), .v (.int .i64 y)]).toArray w (Sd.BinR w s.S y) := by
  refine enter (F := frame0 w) Try.func17 rfl [.ag (senC s), .v (.int .i64 y)] [] (by simp [Try.f17]) trivial (keeps0 w) fun a hr => ?_
  refine seg cfg17_ok mixed PanicFree.body 1000 [] [] hr (by first | trivial | exact HpRep.nil | assumption) (by kernel_rfl) fun s_ hs_ => ?_
  simp (maxSteps := 10000000) [SX.vc, SX.stop, SX.contS, SX.contB, SX.contW, SX.contR, SX.contD, SX.sxStep, SX.stepPure, SX.stepNew, SX.stepStore, SX.stepKeep, SX.guardIx, SX.evOp, SX.opd, SX.opds, SX.optOpd, SX.look, SX.putS, SX.gobs, SX.AllP, SX.leave, SX.lookC, SX.lookB, SX.lookT, SX.lookN, SX.findK, SX.evBuiltin, SX.ints, SX.foldI, SX.evBin, SX.evInt, SX.evStr, SX.evEq, SX.arith, SX.evLoad, SX.shapeUp, SX.evFieldAddr, SX.evField, SX.evIndexAddr, SX.evIndex, SX.evFill, SX.evBuild, SX.szs, SX.cellsV, SX.evNew, SX.evStore, SX.spliceL, SX.SV.cells, SX.evConv, SX.evSlice, SX.bnd, SX.evNil, SX.evUn, SX.evPick, SX.pickOpd, SX.popTo, SX.cnd, SX.env0, SX.TD.isAgg, SX.TD.isIface, SX.tails, SX.NotAgg, SX.evLookup, SX.evConvH, SX.evPtrEq, SX.isCells, SX.thaw, SX.frz, SX.fixB, SX.rootIx, SX.Froz, SX.frzStep, SX.fork, Go.Value.cells, Go.undef, cfg17, Try.f17, senC]
  refine ⟨by (unfold SX.Ob; first | trivial | omega | ((try simp only [SX.inK]); (try simp [SX.den, SX.IsU8, SX.AllP, *]); (try omega))), ?_⟩
  intro a1 w1 hr1 _
  refine post_call 34 [.v (.slice s.ad s.S.length s.cp), .v (.int .i64 y), .fn (.func 35) [] []] hr1 (by first | exact wanted_none rfl | exact wanted_zero (hr1.env.same rfl rfl rfl rfl) rfl (by simp) | exact wanted_zero (hr1.env.same rfl rfl rfl rfl) rfl (by simp [*])) rfl (callable 34 Try.func34) (Sd.bin_ok w1 _ s.S y (hL.below hr1.keeps.toBelow) hn) ?_
  rintro e2 w2 ⟨i, rfl, hp, hb2⟩
  refine ⟨_, rfl, ?_⟩
  have h2 := hr1.ret hb2 9 (.tu [.v (.int .i64 i), .v (.bool (Sd.isAt s.S y i))]) rfl _ (hr1.all.below hb2) (by simp) rfl
  refine seg cfg17_ok mixed PanicFree.body 1000 [] [] h2 (by first | trivial | exact HpRep.nil | assumption) (by kernel_rfl) fun s_ hs_ => ?_
  simp (maxSteps := 10000000) [SX.vc, SX.stop, SX.contS, SX.contB, SX.contW, SX.contR, SX.contD, SX.sxStep, SX.stepPure, SX.stepNew, SX.stepStore, SX.stepKeep, SX.guardIx, SX.evOp, SX.opd, SX.opds, SX.optOpd, SX.look, SX.putS, SX.gobs, SX.AllP, SX.leave, SX.lookC, SX.lookB, SX.lookT, SX.lookN, SX.findK, SX.evBuiltin, SX.ints, SX.foldI, SX.evBin, SX.evInt, SX.evStr, SX.evEq, SX.arith, SX.evLoad, SX.shapeUp, SX.evFieldAddr, SX.evField, SX.evIndexAddr, SX.evIndex, SX.evFill, SX.evBuild, SX.szs, SX.cellsV, SX.evNew, SX.evStore, SX.spliceL, SX.SV.cells, SX.evConv, SX.evSlice, SX.bnd, SX.evNil, SX.evUn, SX.evPick, SX.pickOpd, SX.popTo, SX.cnd, SX.env0, SX.TD.isAgg, SX.TD.isIface, SX.tails, SX.NotAgg, SX.evLookup, SX.evConvH, SX.evPtrEq, SX.isCells, SX.thaw, SX.frz, SX.fixB, SX.rootIx, SX.Froz, SX.frzStep, SX.fork, Go.Value.cells, Go.undef, cfg17]
  refine ⟨by (unfold SX.Ob; first | trivial | omega | ((try simp only [SX.inK]); (try simp [SX.den, SX.IsU8, SX.AllP, *]); (try omega))), ?_⟩
  intro a3 w3 hr3 _
  exact post_retn (end2 hr3 rfl rfl rfl ⟨i, rfl, hp, hr3.keeps.toBelow⟩).1

set_option maxRecDepth 100000 in
set_option maxHeartbeats 16000000 in
/-- Ask. -/
theorem ask_ok {P : Nat → Prop} (w : World) (v : Value) (L : List Sen) (f i : Int) (hL : RdD P w v L) (hS : SmallN L) (hn : L.length ≤ 1000000) : Calls Try.prog 8 (denL [.v v, .v (.int .i64 f), .v (.int .i64 i)]).toArray w (AskR w L f i) := by
  obtain ⟨ad, cp, rfl⟩ := hL.1.slice
  refine enter (F := frame0 w) Try.func8 rfl [.v (.slice ad L.length cp), .v (.int .i64 f), .v (.int .i64 i)] [] (by simp [Try.f8]) trivial (keeps0 w) fun a hr => ?_
  by_cases hi : i < 0
  · have hK : askK L f i = 2 := if_pos (.inl hi)
    have hM : askM L f i = mg0 := if_pos (.inl hi)
    refine seg cfg8_ok mixed PanicFree.body 1000 [true] [(14, true)] hr (by first | trivial | exact HpRep.nil | assumption) (by kernel_rfl) fun sA hsA => ?_
    simp (maxSteps := 10000000) [SX.vc, SX.stop, SX.contS, SX.contB, SX.contW, SX.contR, SX.contD, SX.sxStep, SX.stepPure, SX.stepNew, SX.stepStore, SX.stepKeep, SX.guardIx, SX.evOp, SX.opd, SX.opds, SX.optOpd, SX.look, SX.putS, SX.gobs, SX.AllP, SX.leave, SX.lookC, SX.lookB, SX.lookT, SX.lookN, SX.findK, SX.evBuiltin, SX.ints, SX.foldI, SX.evBin, SX.evInt, SX.evStr, SX.evEq, SX.arith, SX.evLoad, SX.shapeUp, SX.evFieldAddr, SX.evField, SX.evIndexAddr, SX.evIndex, SX.evFill, SX.evBuild, SX.szs, SX.cellsV, SX.evNew, SX.evStore, SX.spliceL, SX.SV.cells, SX.evConv, SX.evSlice, SX.bnd, SX.evNil, SX.evUn, SX.evPick, SX.pickOpd, SX.popTo, SX.cnd, SX.env0, SX.TD.isAgg, SX.TD.isIface, SX.tails, SX.NotAgg, SX.evLookup, SX.evConvH, SX.evPtrEq, SX.isCells, SX.thaw, SX.frz, SX.fixB, SX.rootIx, SX.Froz, SX.frzStep, SX.fork, Go.Value.cells, Go.undef, cfg8, Try.f8, hi]
    refine ⟨by (unfold SX.Ob; first | trivial | omega | ((try simp only [SX.inK]); (try simp [SX.den, SX.IsU8, SX.AllP, *]); (try omega))), ?_⟩
    intro a1 w1 hr1 _
    exact post_retn (endC2 hr1 rfl rfl rfl tok33 rfl rfl ⟨by rw [hK, hM]; simp [den, denL, mgC, mg0], hr1.keeps.toBelow⟩).1
  refine seg cfg8_ok mixed PanicFree.body 1000 [] [(14, false)] hr (by first | trivial | exact HpRep.nil | assumption) (by kernel_rfl) fun sA hsA => ?_
  simp (maxSteps := 10000000) [SX.vc, SX.stop, SX.contS, SX.contB, SX.contW, SX.contR, SX.contD, SX.sxStep, SX.stepPure, SX.stepNew, SX.stepStore, SX.stepKeep, SX.guardIx, SX.evOp, SX.opd, SX.opds, SX.optOpd, SX.look, SX.putS, SX.gobs, SX.AllP, SX.leave, SX.lookC, SX.lookB, SX.lookT, SX.lookN, SX.findK, SX.evBuiltin, SX.ints, SX.foldI, SX.evBin, SX.evInt, SX.evStr, SX.evEq, SX.arith, SX.evLoad, SX.shapeUp, SX.evFieldAddr, SX.evField, SX.evIndexAddr, SX.evIndex, SX.evFill, SX.evBuild, SX.szs, SX.cellsV, SX.evNew, SX.evStore, SX.spliceL, SX.SV.cells, SX.evConv, SX.evSlice, SX.bnd, SX.evNil, SX.evUn, SX.evPick, SX.pickOpd, SX.popTo, SX.cnd, SX.env0, SX.TD.isAgg, SX.TD.isIface, SX.tails, SX.NotAgg, SX.evLookup, SX.evConvH, SX.evPtrEq, SX.isCells, SX.thaw, SX.frz, SX.fixB, SX.rootIx, SX.Froz, SX.frzStep, SX.fork, Go.Value.cells, Go.undef, cfg8, Try.f8, hi]
  refine ⟨by (unfold SX.Ob; first | trivial | omega | ((try simp only [SX.inK]); (try simp [SX.den, SX.IsU8, SX.AllP, *]); (try omega))), ?_⟩
  intro a1 w1 hr1 _
  refine post_call 13 [.v (.slice ad L.length cp)] hr1 (by first | exact wanted_none rfl | exact wanted_zero (hr1.env.same rfl rfl rfl rfl) rfl (by simp) | exact wanted_zero (hr1.env.same rfl rfl rfl rfl) rfl (by simp [*])) rfl (callable 13 Try.func13) (check_ok w1 _ L (hL.below hr1.keeps.toBelow) hS (by omega)) ?_
  rintro e2 w2 ⟨rfl, hb2⟩
  refine ⟨_, rfl, ?_⟩
  have h2 := hr1.ret hb2 16 (.v (.int .i64 (chkN L))) rfl _ (hr1.all.below hb2) (by simp) rfl
  by_cases hC : ChkN (-1) L
  rotate_left
  · have hc : chkN L = 1 := if_neg hC
    have hK : askK L f i = 2 := if_pos (.inr hC)
    have hM : askM L f i = mg0 := if_pos (.inr hC)
    refine seg cfg8_ok mixed PanicFree.body 1000 [true] [(14, false)] h2 (by first | trivial | exact HpRep.nil | assumption) (by kernel_rfl) fun s_ hs_ => ?_
    simp (maxSteps := 10000000) [SX.vc, SX.stop, SX.contS, SX.contB, SX.contW, SX.contR, SX.contD, SX.sxStep, SX.stepPure, SX.stepNew, SX.stepStore, SX.stepKeep, SX.guardIx, SX.evOp, SX.opd, SX.opds, SX.optOpd, SX.look, SX.putS, SX.gobs, SX.AllP, SX.leave, SX.lookC, SX.lookB, SX.lookT, SX.lookN, SX.findK, SX.evBuiltin, SX.ints, SX.foldI, SX.evBin, SX.evInt, SX.evStr, SX.evEq, SX.arith, SX.evLoad, SX.shapeUp, SX.evFieldAddr, SX.evField, SX.evIndexAddr, SX.evIndex, SX.evFill, SX.evBuild, SX.szs, SX.cellsV, SX.evNew, SX.evStore, SX.spliceL, SX.SV.cells, SX.evConv, SX.evSlice, SX.bnd, SX.evNil, SX.evUn, SX.evPick, SX.pickOpd, SX.popTo, SX.cnd, SX.env0, SX.TD.isAgg, SX.TD.isIface, SX.tails, SX.NotAgg, SX.evLookup, SX.evConvH, SX.evPtrEq, SX.isCells, SX.thaw, SX.frz, SX.fixB, SX.rootIx, SX.Froz, SX.frzStep, SX.fork, Go.Value.cells, Go.undef, cfg8, hc]
    refine ⟨by (unfold SX.Ob; first | trivial | omega | ((try simp only [SX.inK]); (try simp [SX.den, SX.IsU8, SX.AllP, *]); (try omega))), ?_⟩
    intro a3 w3 hr3 _
    exact post_retn (endC2 hr3 rfl rfl rfl tok33 rfl rfl ⟨by rw [hK, hM]; simp [den, denL, mgC, mg0], hr3.keeps.toBelow⟩).1
  have hc : chkN L = 0 := if_pos hC
  have hK : askK L f i = match ofN L f with | none => 0 | some s => if i < s.below then 2 else match ansS s.S i with | none => 0 | some _ => 1 := if_neg (by simp [hC, hi])
  have hM : askM L f i = match ofN L f with | none => mg0 | some s => if i < s.below then mg0 else match ansS s.S i with | none => mg0 | some x => x.m := if_neg (by simp [hC, hi])
  refine seg cfg8_ok mixed PanicFree.body 1000 [false] [(14, false)] h2 (by first | trivial | exact HpRep.nil | assumption) (by kernel_rfl) fun s_ hs_ => ?_
  simp (maxSteps := 10000000) [SX.vc, SX.stop, SX.contS, SX.contB, SX.contW, SX.contR, SX.contD, SX.sxStep, SX.stepPure, SX.stepNew, SX.stepStore, SX.stepKeep, SX.guardIx, SX.evOp, SX.opd, SX.opds, SX.optOpd, SX.look, SX.putS, SX.gobs, SX.AllP, SX.leave, SX.lookC, SX.lookB, SX.lookT, SX.lookN, SX.findK, SX.evBuiltin, SX.ints, SX.foldI, SX.evBin, SX.evInt, SX.evStr, SX.evEq, SX.arith, SX.evLoad, SX.shapeUp, SX.evFieldAddr, SX.evField, SX.evIndexAddr, SX.evIndex, SX.evFill, SX.evBuild, SX.szs, SX.cellsV, SX.evNew, SX.evStore, SX.spliceL, SX.SV.cells, SX.evConv, SX.evSlice, SX.bnd, SX.evNil, SX.evUn, SX.evPick, SX.pickOpd, SX.popTo, SX.cnd, SX.env0, SX.TD.isAgg, SX.TD.isIface, SX.tails, SX.NotAgg, SX.evLookup, SX.evConvH, SX.evPtrEq, SX.isCells, SX.thaw, SX.frz, SX.fixB, SX.rootIx, SX.Froz, SX.frzStep, SX.fork, Go.Value.cells, Go.undef, cfg8, hc]
  refine ⟨by (unfold SX.Ob; first | trivial | omega | ((try simp only [SX.inK]); (try simp [SX.den, SX.IsU8, SX.AllP, *]); (try omega))), ?_⟩
  intro a3 w3 hr3 _
  refine post_call 16 [.v (.slice ad L.length cp), .v (.int .i64 f)] hr3 (by first | exact wanted_none rfl | exact wanted_zero (hr3.env.same rfl rfl rfl rfl) rfl (by simp) | exact wanted_zero (hr3.env.same rfl rfl rfl rfl) rfl (by simp [*])) rfl (callable 16 Try.func16) (find_ok w3 _ L f (hL.1.below hr3.keeps.toBelow) (by omega)) ?_
  rintro e4 w4 ⟨k, rfl, hp, hb4⟩
  refine ⟨_, rfl, ?_⟩
  have h4 := hr3.ret hb4 23 (.tu [.v (.int .i64 k), .v (.bool (Sn.isAt L f k))]) rfl _ (hr3.all.below hb4) (by simp) rfl
  by_cases hat : Sn.isAt L f k = true
  rotate_left
  · have hat' : Sn.isAt L f k = false := by simpa using hat
    have hno := ofN_no hC hp hat'
    rw [hno] at hK hM
    refine seg cfg8_ok mixed PanicFree.body 1000 [true] [] h4 (by first | trivial | exact HpRep.nil | assumption) (by kernel_rfl) fun s_ hs_ => ?_
    simp (maxSteps := 10000000) [SX.vc, SX.stop, SX.contS, SX.contB, SX.contW, SX.contR, SX.contD, SX.sxStep, SX.stepPure, SX.stepNew, SX.stepStore, SX.stepKeep, SX.guardIx, SX.evOp, SX.opd, SX.opds, SX.optOpd, SX.look, SX.putS, SX.gobs, SX.AllP, SX.leave, SX.lookC, SX.lookB, SX.lookT, SX.lookN, SX.findK, SX.evBuiltin, SX.ints, SX.foldI, SX.evBin, SX.evInt, SX.evStr, SX.evEq, SX.arith, SX.evLoad, SX.shapeUp, SX.evFieldAddr, SX.evField, SX.evIndexAddr, SX.evIndex, SX.evFill, SX.evBuild, SX.szs, SX.cellsV, SX.evNew, SX.evStore, SX.spliceL, SX.SV.cells, SX.evConv, SX.evSlice, SX.bnd, SX.evNil, SX.evUn, SX.evPick, SX.pickOpd, SX.popTo, SX.cnd, SX.env0, SX.TD.isAgg, SX.TD.isIface, SX.tails, SX.NotAgg, SX.evLookup, SX.evConvH, SX.evPtrEq, SX.isCells, SX.thaw, SX.frz, SX.fixB, SX.rootIx, SX.Froz, SX.frzStep, SX.fork, Go.Value.cells, Go.undef, cfg8, hat']
    refine ⟨by (unfold SX.Ob; first | trivial | omega | ((try simp only [SX.inK]); (try simp [SX.den, SX.IsU8, SX.AllP, *]); (try omega))), ?_⟩
    intro a5 w5 hr5 _
    exact post_retn (endC2 hr5 rfl rfl rfl tok33 rfl rfl ⟨by rw [hK, hM]; simp [den, denL, mgC, mg0], hr5.keeps.toBelow⟩).1
  obtain ⟨hk, hkf⟩ : k < L.length ∧ (nth sen0 L k).frm = f := by simpa [Sn.isAt] using hat
  obtain ⟨s, hs⟩ : ∃ s, nth sen0 L k = s := ⟨_, rfl⟩
  have hsL : s ∈ L := hs ▸ nth_mem hk
  have hof := ofN_at hC hk hs
  rw [show s.frm = f by rw [← hs]; exact hkf] at hof
  rw [hof] at hK hM
  dsimp only at hK hM
  obtain ⟨hok, _⟩ := (chkN_pw.1 hC).1 s hsL
  obtain ⟨b, o0, cap, u, fz, hP, hv, hrep⟩ := hL.1.opn hk
  cases hv
  have hbw := SO.rep_lt hrep
  have hA4 := h4.all
  have hrep4 := SO.rep_same hrep (h4.keeps.toBelow.block _ hbw)
  have hsA := SO.rep_lt hA4.1.1
  have hsA2 : w.heap.size ≤ sA := by
    rcases hA4.1.2.1 rfl with h | h
    · exact h
    · cases h
  have h5 := (h4.top 0 (.sl 1 b o0 0 L.length cp 3) rfl (by simp [den])).see [(sA, true, .cells [.v (.int .i64 0), .v (.int .i64 0), .v (.int .i64 0), .v (.int .i64 0), .v (.slice none 0 0), .v (.slice none 0 0)] 33), (b, false, .arr o0 L.length (fun j => senC (nth sen0 L j)) 3 u fz)] ⟨⟨hA4.1.1, hA4.1.2.1, by simp; omega⟩, HpAll.one hrep4⟩
  refine seg cfg8_ok mixed PanicFree.body 1000 [false] [] h5 (by first | trivial | exact HpRep.nil | assumption) (by kernel_rfl) fun s_ hs_ => ?_
  simp (maxSteps := 10000000) [SX.vc, SX.stop, SX.contS, SX.contB, SX.contW, SX.contR, SX.contD, SX.sxStep, SX.stepPure, SX.stepNew, SX.stepStore, SX.stepKeep, SX.guardIx, SX.evOp, SX.opd, SX.opds, SX.optOpd, SX.look, SX.putS, SX.gobs, SX.AllP, SX.leave, SX.lookC, SX.lookB, SX.lookT, SX.lookN, SX.findK, SX.evBuiltin, SX.ints, SX.foldI, SX.evBin, SX.evInt, SX.evStr, SX.evEq, SX.arith, SX.evLoad, SX.shapeUp, SX.evFieldAddr, SX.evField, SX.evIndexAddr, SX.evIndex, SX.evFill, SX.evBuild, SX.szs, SX.cellsV, SX.evNew, SX.evStore, SX.spliceL, SX.SV.cells, SX.evConv, SX.evSlice, SX.bnd, SX.evNil, SX.evUn, SX.evPick, SX.pickOpd, SX.popTo, SX.cnd, SX.env0, SX.TD.isAgg, SX.TD.isIface, SX.tails, SX.NotAgg, SX.evLookup, SX.evConvH, SX.evPtrEq, SX.isCells, SX.thaw, SX.frz, SX.fixB, SX.rootIx, SX.Froz, SX.frzStep, SX.fork, Go.Value.cells, Go.undef, cfg8, hat, senC, hs]
  refine ⟨by (unfold SX.Ob; first | trivial | omega | ((try simp only [SX.inK]); (try simp [SX.den, SX.IsU8, SX.AllP, *]); (try omega))), ?_⟩
  intro a6 w6 hr6 _
  have hRS := (hL.2 s hsL).below hr6.keeps.toBelow
  refine post_call 17 [.ag (senC s), .v (.int .i64 i)] hr6 (by first | exact wanted_none rfl | exact wanted_zero (hr6.env.same rfl rfl rfl rfl) rfl (by simp) | exact wanted_zero (hr6.env.same rfl rfl rfl rfl) rfl (by simp [*])) rfl (callable 17 Try.func17) (said_ok w6 s i hRS (Nat.le_trans hok.2.2.1 (by omega))) ?_
  rintro e7 w7 ⟨q, rfl, hq, hb7⟩
  refine ⟨_, rfl, ?_⟩
  have h7 := hr6.ret hb7 35 (.tu [.v (.int .i64 q), .v (.bool (Sd.isAt s.S i q))]) rfl _ (hr6.all.below hb7) (by simp) rfl
  by_cases hbl : i < s.below
  · rw [if_pos hbl] at hK hM
    refine seg cfg8_ok mixed PanicFree.body 1000 [true] [] h7 (by first | trivial | exact HpRep.nil | assumption) (by kernel_rfl) fun s_ hs_ => ?_
    simp (maxSteps := 10000000) [SX.vc, SX.stop, SX.contS, SX.contB, SX.contW, SX.contR, SX.contD, SX.sxStep, SX.stepPure, SX.stepNew, SX.stepStore, SX.stepKeep, SX.guardIx, SX.evOp, SX.opd, SX.opds, SX.optOpd, SX.look, SX.putS, SX.gobs, SX.AllP, SX.leave, SX.lookC, SX.lookB, SX.lookT, SX.lookN, SX.findK, SX.evBuiltin, SX.ints, SX.foldI, SX.evBin, SX.evInt, SX.evStr, SX.evEq, SX.arith, SX.evLoad, SX.shapeUp, SX.evFieldAddr, SX.evField, SX.evIndexAddr, SX.evIndex, SX.evFill, SX.evBuild, SX.szs, SX.cellsV, SX.evNew, SX.evStore, SX.spliceL, SX.SV.cells, SX.evConv, SX.evSlice, SX.bnd, SX.evNil, SX.evUn, SX.evPick, SX.pickOpd, SX.popTo, SX.cnd, SX.env0, SX.TD.isAgg, SX.TD.isIface, SX.tails, SX.NotAgg, SX.evLookup, SX.evConvH, SX.evPtrEq, SX.isCells, SX.thaw, SX.frz, SX.fixB, SX.rootIx, SX.Froz, SX.frzStep, SX.fork, Go.Value.cells, Go.undef, cfg8, senC, hs, hbl]
    refine ⟨by (unfold SX.Ob; first | trivial | omega | ((try simp only [SX.inK]); (try simp [SX.den, SX.IsU8, SX.AllP, *]); (try omega))), ?_⟩
    intro a8 w8 hr8 _
    exact post_retn (endC2 hr8 rfl rfl rfl tok33 rfl rfl ⟨by rw [hK, hM]; simp [den, denL, mgC, mg0], hr8.keeps.toBelow⟩).1
  rw [if_neg hbl] at hK hM
  by_cases haq : Sd.isAt s.S i q = true
  rotate_left
  · have haq' : Sd.isAt s.S i q = false := by simpa using haq
    have hno := ansS_no hok.2.2.2 hq haq'
    rw [hno] at hK hM
    refine seg cfg8_ok mixed PanicFree.body 1000 [false, false] [] h7 (by first | trivial | exact HpRep.nil | assumption) (by kernel_rfl) fun s_ hs_ => ?_
    simp (maxSteps := 10000000) [SX.vc, SX.stop, SX.contS, SX.contB, SX.contW, SX.contR, SX.contD, SX.sxStep, SX.stepPure, SX.stepNew, SX.stepStore, SX.stepKeep, SX.guardIx, SX.evOp, SX.opd, SX.opds, SX.optOpd, SX.look, SX.putS, SX.gobs, SX.AllP, SX.leave, SX.lookC, SX.lookB, SX.lookT, SX.lookN, SX.findK, SX.evBuiltin, SX.ints, SX.foldI, SX.evBin, SX.evInt, SX.evStr, SX.evEq, SX.arith, SX.evLoad, SX.shapeUp, SX.evFieldAddr, SX.evField, SX.evIndexAddr, SX.evIndex, SX.evFill, SX.evBuild, SX.szs, SX.cellsV, SX.evNew, SX.evStore, SX.spliceL, SX.SV.cells, SX.evConv, SX.evSlice, SX.bnd, SX.evNil, SX.evUn, SX.evPick, SX.pickOpd, SX.popTo, SX.cnd, SX.env0, SX.TD.isAgg, SX.TD.isIface, SX.tails, SX.NotAgg, SX.evLookup, SX.evConvH, SX.evPtrEq, SX.isCells, SX.thaw, SX.frz, SX.fixB, SX.rootIx, SX.Froz, SX.frzStep, SX.fork, Go.Value.cells, Go.undef, cfg8, senC, hs, hbl, haq']
    refine ⟨by (unfold SX.Ob; first | trivial | omega | ((try simp only [SX.inK]); (try simp [SX.den, SX.IsU8, SX.AllP, *]); (try omega))), ?_⟩
    intro a8 w8 hr8 _
    exact post_retn (endC2 hr8 rfl rfl rfl tok33 rfl rfl ⟨by rw [hK, hM]; simp [den, denL, mgC, mg0], hr8.keeps.toBelow⟩).1
  obtain ⟨hql, hqi⟩ : q < s.S.length ∧ (nth sad0 s.S q).id = i := by simpa [Sd.isAt] using haq
  obtain ⟨x, hx⟩ : ∃ x, nth sad0 s.S q = x := ⟨_, rfl⟩
  have han := ansS_at hok.2.2.2 hql hx
  rw [show x.id = i by rw [← hx]; exact hqi] at han
  rw [han] at hK hM
  dsimp only at hK hM
  obtain ⟨b2, o2, cap2, u2, fz2, hP2, hv2, hrep2⟩ := (hL.2 s hsL).opn hql
  have hb2w := SO.rep_lt hrep2
  refine seg cfg8_ok mixed PanicFree.body 1000 [false] [] h7 (by first | trivial | exact HpRep.nil | assumption) (by kernel_rfl) fun s_ hs_ => ?_
  simp (maxSteps := 10000000) [SX.vc, SX.stop, SX.contS, SX.contB, SX.contW, SX.contR, SX.contD, SX.sxStep, SX.stepPure, SX.stepNew, SX.stepStore, SX.stepKeep, SX.guardIx, SX.evOp, SX.opd, SX.opds, SX.optOpd, SX.look, SX.putS, SX.gobs, SX.AllP, SX.leave, SX.lookC, SX.lookB, SX.lookT, SX.lookN, SX.findK, SX.evBuiltin, SX.ints, SX.foldI, SX.evBin, SX.evInt, SX.evStr, SX.evEq, SX.arith, SX.evLoad, SX.shapeUp, SX.evFieldAddr, SX.evField, SX.evIndexAddr, SX.evIndex, SX.evFill, SX.evBuild, SX.szs, SX.cellsV, SX.evNew, SX.evStore, SX.spliceL, SX.SV.cells, SX.evConv, SX.evSlice, SX.bnd, SX.evNil, SX.evUn, SX.evPick, SX.pickOpd, SX.popTo, SX.cnd, SX.env0, SX.TD.isAgg, SX.TD.isIface, SX.tails, SX.NotAgg, SX.evLookup, SX.evConvH, SX.evPtrEq, SX.isCells, SX.thaw, SX.frz, SX.fixB, SX.rootIx, SX.Froz, SX.frzStep, SX.fork, Go.Value.cells, Go.undef, cfg8, senC, hs, hbl, haq]
  refine ⟨by (unfold SX.Ob; first | trivial | omega | ((try simp only [SX.inK]); (try simp [SX.den, SX.IsU8, SX.AllP, *]); (try omega))), ?_⟩
  intro a9 w9 hr9 _
  refine seg cfg8_ok mixed PanicFree.body 8 [true] [] hr9 (by first | trivial | exact HpRep.nil | assumption) (by kernel_rfl) fun s_ hs_ => ?_
  simp (maxSteps := 10000000) [SX.vc, SX.stop, SX.contS, SX.contB, SX.contW, SX.contR, SX.contD, SX.sxStep, SX.stepPure, SX.stepNew, SX.stepStore, SX.stepKeep, SX.guardIx, SX.evOp, SX.opd, SX.opds, SX.optOpd, SX.look, SX.putS, SX.gobs, SX.AllP, SX.leave, SX.lookC, SX.lookB, SX.lookT, SX.lookN, SX.findK, SX.evBuiltin, SX.ints, SX.foldI, SX.evBin, SX.evInt, SX.evStr, SX.evEq, SX.arith, SX.evLoad, SX.shapeUp, SX.evFieldAddr, SX.evField, SX.evIndexAddr, SX.evIndex, SX.evFill, SX.evBuild, SX.szs, SX.cellsV, SX.evNew, SX.evStore, SX.spliceL, SX.SV.cells, SX.evConv, SX.evSlice, SX.bnd, SX.evNil, SX.evUn, SX.evPick, SX.pickOpd, SX.popTo, SX.cnd, SX.env0, SX.TD.isAgg, SX.TD.isIface, SX.tails, SX.NotAgg, SX.evLookup, SX.evConvH, SX.evPtrEq, SX.isCells, SX.thaw, SX.frz, SX.fixB, SX.rootIx, SX.Froz, SX.frzStep, SX.fork, Go.Value.cells, Go.undef, cfg8, senC, hs, haq]
  refine ⟨by (unfold SX.Ob; first | trivial | omega | ((try simp only [SX.inK]); (try simp [SX.den, SX.IsU8, SX.AllP, *]); (try omega))), ?_⟩
  intro a10 w10 hr10 _
  have hA10 := hr10.all
  have hrep10 := SO.rep_same hrep2 ((hr10.keeps.toBelow.block _ hb2w))
  have h11 := (hr10.top 53 (.sl 1 b2 o2 0 s.S.length cap2 7) rfl (by simp [den, hv2])).see [(sA, true, .cells [.v (.int .i64 0), .v (.int .i64 0), .v (.int .i64 0), .v (.int .i64 0), .v (.slice none 0 0), .v (.slice none 0 0)] 33), (b2, false, .arr o2 s.S.length (fun j => sadC (nth sad0 s.S j)) 7 u2 fz2)] ⟨⟨hA10.1.1, hA10.1.2.1, by simp; omega⟩, HpAll.one hrep10⟩
  refine seg cfg8_ok mixed PanicFree.body 1000 [] [] h11 (by first | trivial | exact HpRep.nil | assumption) (by kernel_rfl) fun s_ hs_ => ?_
  simp (maxSteps := 10000000) [SX.vc, SX.stop, SX.contS, SX.contB, SX.contW, SX.contR, SX.contD, SX.sxStep, SX.stepPure, SX.stepNew, SX.stepStore, SX.stepKeep, SX.guardIx, SX.evOp, SX.opd, SX.opds, SX.optOpd, SX.look, SX.putS, SX.gobs, SX.AllP, SX.leave, SX.lookC, SX.lookB, SX.lookT, SX.lookN, SX.findK, SX.evBuiltin, SX.ints, SX.foldI, SX.evBin, SX.evInt, SX.evStr, SX.evEq, SX.arith, SX.evLoad, SX.shapeUp, SX.evFieldAddr, SX.evField, SX.evIndexAddr, SX.evIndex, SX.evFill, SX.evBuild, SX.szs, SX.cellsV, SX.evNew, SX.evStore, SX.spliceL, SX.SV.cells, SX.evConv, SX.evSlice, SX.bnd, SX.evNil, SX.evUn, SX.evPick, SX.pickOpd, SX.popTo, SX.cnd, SX.env0, SX.TD.isAgg, SX.TD.isIface, SX.tails, SX.NotAgg, SX.evLookup, SX.evConvH, SX.evPtrEq, SX.isCells, SX.thaw, SX.frz, SX.fixB, SX.rootIx, SX.Froz, SX.frzStep, SX.fork, Go.Value.cells, Go.undef, cfg8, sadC, hx]
  refine ⟨by (unfold SX.Ob; first | trivial | omega | ((try simp only [SX.inK]); (try simp [SX.den, SX.IsU8, SX.AllP, *]); (try omega))), ?_⟩
  intro a12 w12 hr12 _
  exact post_retn (endC2 hr12 rfl rfl rfl tok33 rfl rfl ⟨by rw [hK, hM]; simp [den, denL, mgC], hr12.keeps.toBelow⟩).1
end Go.Proofs
