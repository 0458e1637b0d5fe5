/- Extents: Gaps. -/
import Derived.Test.YtpbihcfmjnidbaaEO
namespace Go.Proofs
set_option linter.unusedVariables false
set_option linter.unusedSimpArgs false
open Go Go.SX Go.RowKit

def GapPost (Pb : Nat → Prop) (w : World) (cO : Nat) (M : List Ext) (e : Ending) (w' : World) : Prop :=
  e = .returned (.tuple #[]) ∧ ∃ (v' : Value) (B : List Nat), (SO.cells [.v v'] 22).rep w' cO ∧ OwE Pb w' v' M ∧ (∀ x ∈ B, Pb x ∧ x < w.heap.size) ∧ KeepsTo w (cO :: B) w'

set_option maxRecDepth 100000 in
set_option maxHeartbeats 8000000 in
/-- The closure of Gaps. -/
theorem gapc_ok {Pb : Nat → Prop} (w : World) (lb to : Int) (cL cO : Nat) (v : Value) (M : List Ext) (hcL : (SO.cells [.v (.int .i64 lb)] 3).rep w cL) (hcO : (SO.cells [.v v] 22).rep w cO) (hne : cL ≠ cO) (hO : OwE Pb w v M) (hPb : ∀ x, w.heap.size ≤ x → Pb x) (hp1 : ¬ Pb cL) (hp2 : ¬ Pb cO) (hs1 : Sm lb) (hs2 : Sm to) (hl : M.length ≤ 1000000) :
    Calls Try.prog 30 (denL [.v (.int .i64 to), .ptr 0 cL 0, .ptr 1 cO 0]).toArray w (GapPost Pb w cO (M ++ gapL lb to)) := by
  unfold Sm at hs1 hs2
  obtain ⟨b0, hb0, hO'⟩ : ∃ b0 : List Nat, (∀ x ∈ b0, Pb x ∧ x < w.heap.size) ∧ OwE (fun x => w.heap.size ≤ x ∨ x ∈ b0) w v M := by
    rcases hO with h | ⟨b, N, cap, u, row, hP, h1, h2, h3, h4, h5, h6⟩
    · exact ⟨[], by simp, .inl h⟩
    · exact ⟨[b], by simpa using ⟨hP, SO.rep_lt h5⟩, .inr ⟨b, N, cap, u, row, .inr (by simp), h1, h2, h3, h4, h5, h6⟩⟩
  have hE : HpAll ⟨w, w.heap.size, cO :: b0⟩ w [(cL, false, .cells [.v (.int .i64 lb)] 3), (cO, true, .cells [.v v] 22)] := ⟨⟨hcL, by simp, by simpa using hne⟩, ⟨hcO, by simp, by simp⟩, trivial⟩
  obtain ⟨vd, vc, rfl⟩ := hO.slice
  refine enter (F := ⟨w, w.heap.size, cO :: b0⟩) Try.func30 rfl [.v (.int .i64 to), .ptr 0 cL 0, .ptr 1 cO 0] _ (by simp [Try.f30]) hE (KeepsTo.refl w _) fun a hr => ?_
  by_cases hlt : lb < to
  · have hg : gapL lb to = [⟨lb, to - lb, 0, -1, 0⟩] := if_pos hlt
    rw [hg]
    refine seg cfg30_ok mixed PanicFree.body 1000 [true] [] hr.rebase (by first | trivial | exact HpRep.nil | assumption) (by kernel_rfl) fun sG hsG => ?_
    simp (maxSteps := 10000000) [SX.vc, SX.stop, SX.contS, SX.contB, SX.contW, SX.contR, SX.contD, SX.sxStep, SX.stepPure, SX.stepNew, SX.stepStore, SX.stepKeep, SX.guardIx, SX.evOp, SX.opd, SX.opds, SX.optOpd, SX.look, SX.putS, SX.gobs, SX.AllP, SX.leave, SX.lookC, SX.lookB, SX.lookT, SX.lookN, SX.findK, SX.evBuiltin, SX.ints, SX.foldI, SX.evBin, SX.evInt, SX.evStr, SX.evEq, SX.arith, SX.evLoad, SX.shapeUp, SX.evFieldAddr, SX.evField, SX.evIndexAddr, SX.evIndex, SX.evFill, SX.evBuild, SX.szs, SX.cellsV, SX.evNew, SX.evStore, SX.spliceL, SX.SV.cells, SX.evConv, SX.evSlice, SX.bnd, SX.evNil, SX.evUn, SX.evPick, SX.pickOpd, SX.popTo, SX.cnd, SX.env0, SX.TD.isAgg, SX.TD.isIface, SX.tails, SX.NotAgg, SX.evLookup, SX.evConvH, SX.evPtrEq, SX.isCells, SX.thaw, SX.frz, SX.fixB, SX.rootIx, SX.Froz, SX.frzStep, SX.fork, Go.Value.cells, Go.undef, cfg30, Try.f30, hlt]
    refine ⟨by (unfold SX.Ob; first | trivial | omega | ((try simp only [SX.inK]); (try simp [SX.den, SX.IsU8, SX.AllP, *]); (try omega))), ?_⟩
    intro a1 w1 hr1' _
    have hr1 := hr.unbase hr1'
    have z1 : w.heap.size ≤ w1.heap.size := hr1.keeps.size
    have hO1 := hO'.keep hr1'.keeps (by
      intro x hx
      simp [frameAt, mutB] at hx
      subst hx
      rintro (h | h)
      · have := SO.rep_lt hcO
        omega
      · exact hp2 (hb0 _ h).1)
    have k1 := SO.rep_lt hcL
    have k2 := SO.rep_lt hcO
    have hA1 := hr1.all
    have hH : ∀ w' B, KeepsTo w1 B w' → (∀ x ∈ B, (w.heap.size ≤ x ∨ x ∈ b0) ∧ x < w1.heap.size) → HpAll ⟨w, w.heap.size, cO :: b0⟩ w' [(cL, false, .cells [.v (.int .i64 lb)] 3), (cO, true, .cells [.v (.slice vd M.length vc)] 22)] := fun w' B hk hB => HpAll.to hk (hA1.take 2) (by
      intro e he hB'
      simp only [List.take, List.mem_cons, List.not_mem_nil, or_false] at he
      rcases he with rfl | rfl
      · rcases (hB _ hB').1 with h | h
        · have h' : w.heap.size ≤ cL := h
          omega
        · exact hp1 (hb0 _ h).1
      · rcases (hB _ hB').1 with h | h
        · have h' : w.heap.size ≤ cO := h
          omega
        · exact hp2 (hb0 _ h).1)
    refine post_app (C := cfg30) cfg30_ok hr1 (by first | exact wanted_none rfl | exact wanted_zero (hr1.env.same rfl rfl rfl rfl) rfl (by simp)) rfl (by simp) rfl rfl rfl rfl rfl rfl rfl rfl rfl (by decide) (flatE _) (by (try simp only [List.length_append, List.length_cons, List.length_nil, List.length_map, List.length_take]); omega) (fun x hx => .inl (Nat.le_trans z1 hx)) hO1 (RdS.lit (x := ⟨lb, to - lb, 0, -1, 0⟩) hA1.2.2.1.1 (by simp [extC])) [(cL, false, .cells [.v (.int .i64 lb)] 3), (cO, true, .cells [.v (.slice vd M.length vc)] 22)] hH (fun x hx => hx.elim .inl (fun h => .inr (by simp [h]))) fun V2 a2 w2 B2 hO2 hB2 hk2 hr2 => ?_
    obtain ⟨M2, hM2⟩ : ∃ M2, M2 = M ++ [⟨lb, to - lb, 0, -1, 0⟩] := ⟨_, rfl⟩
    rw [← hM2] at hO2 ⊢
    obtain ⟨d2, c2, rfl⟩ := hO2.slice
    refine seg cfg30_ok mixed PanicFree.body 1000 [] [] hr2.rebase (by first | trivial | exact HpRep.nil | assumption) (by kernel_rfl) fun s_ hs_ => ?_
    simp (maxSteps := 10000000) [SX.vc, SX.stop, SX.contS, SX.contB, SX.contW, SX.contR, SX.contD, SX.sxStep, SX.stepPure, SX.stepNew, SX.stepStore, SX.stepKeep, SX.guardIx, SX.evOp, SX.opd, SX.opds, SX.optOpd, SX.look, SX.putS, SX.gobs, SX.AllP, SX.leave, SX.lookC, SX.lookB, SX.lookT, SX.lookN, SX.findK, SX.evBuiltin, SX.ints, SX.foldI, SX.evBin, SX.evInt, SX.evStr, SX.evEq, SX.arith, SX.evLoad, SX.shapeUp, SX.evFieldAddr, SX.evField, SX.evIndexAddr, SX.evIndex, SX.evFill, SX.evBuild, SX.szs, SX.cellsV, SX.evNew, SX.evStore, SX.spliceL, SX.SV.cells, SX.evConv, SX.evSlice, SX.bnd, SX.evNil, SX.evUn, SX.evPick, SX.pickOpd, SX.popTo, SX.cnd, SX.env0, SX.TD.isAgg, SX.TD.isIface, SX.tails, SX.NotAgg, SX.evLookup, SX.evConvH, SX.evPtrEq, SX.isCells, SX.thaw, SX.frz, SX.fixB, SX.rootIx, SX.Froz, SX.frzStep, SX.fork, Go.Value.cells, Go.undef, cfg30]
    refine ⟨by (unfold SX.Ob; first | trivial | omega | ((try simp only [SX.inK]); (try simp [SX.den, SX.IsU8, SX.AllP, *]); (try omega))), ?_⟩
    intro a3 w3 hr3' _
    have hr3 := hr2.unbase hr3'
    have hO3 := hO2.keep hr3'.keeps (by
      intro x hx
      simp [frameAt, mutB] at hx
      subst hx
      rintro (h | h)
      · omega
      · exact hp2 (hb0 _ h).1)
    exact post_nil (end0 hr3 rfl ⟨rfl, _, b0, hr3.all.2.1.1, hO3.mono (fun x _ hx => hx.elim (hPb x) (fun h => (hb0 x h).1)), hb0, hr3.keeps⟩).2
  · have hg : gapL lb to = [] := if_neg hlt
    rw [hg, List.append_nil]
    refine seg cfg30_ok mixed PanicFree.body 1000 [false] [] hr.rebase (by first | trivial | exact HpRep.nil | assumption) (by kernel_rfl) fun s_ hs_ => ?_
    simp (maxSteps := 10000000) [SX.vc, SX.stop, SX.contS, SX.contB, SX.contW, SX.contR, SX.contD, SX.sxStep, SX.stepPure, SX.stepNew, SX.stepStore, SX.stepKeep, SX.guardIx, SX.evOp, SX.opd, SX.opds, SX.optOpd, SX.look, SX.putS, SX.gobs, SX.AllP, SX.leave, SX.lookC, SX.lookB, SX.lookT, SX.lookN, SX.findK, SX.evBuiltin, SX.ints, SX.foldI, SX.evBin, SX.evInt, SX.evStr, SX.evEq, SX.arith, SX.evLoad, SX.shapeUp, SX.evFieldAddr, SX.evField, SX.evIndexAddr, SX.evIndex, SX.evFill, SX.evBuild, SX.szs, SX.cellsV, SX.evNew, SX.evStore, SX.spliceL, SX.SV.cells, SX.evConv, SX.evSlice, SX.bnd, SX.evNil, SX.evUn, SX.evPick, SX.pickOpd, SX.popTo, SX.cnd, SX.env0, SX.TD.isAgg, SX.TD.isIface, SX.tails, SX.NotAgg, SX.evLookup, SX.evConvH, SX.evPtrEq, SX.isCells, SX.thaw, SX.frz, SX.fixB, SX.rootIx, SX.Froz, SX.frzStep, SX.fork, Go.Value.cells, Go.undef, cfg30, Try.f30, hlt]
    refine ⟨by (unfold SX.Ob; first | trivial | omega | ((try simp only [SX.inK]); (try simp [SX.den, SX.IsU8, SX.AllP, *]); (try omega))), ?_⟩
    intro a1 w1 hr1' _
    have hr1 := hr.unbase hr1'
    have hO1 := hO.keep hr1'.keeps (by
      intro x hx
      simp [frameAt, mutB] at hx
      subst hx
      exact hp2)
    exact post_nil (end0 hr1 rfl ⟨rfl, _, b0, hr1.all.2.1.1, hO1, hb0, hr1.keeps⟩).2

theorem gapGo_append {lb last : Int} {Q : List Ext} {k : Nat} (hk : k < Q.length) : gapGo lb last (Q.drop k) = gapL lb (nth ext0 Q k).lba ++ gapGo ((nth ext0 Q k).lba + (nth ext0 Q k).n) last (Q.drop (k + 1)) := by
  rw [drop_nth (d := ext0) hk, gapGo]

def GLoop (w : World) (v8 : Value) (Q : List Ext) (lba last : Int) (cL cO : Nat) (m : Nat) (a : Act) (w' : World) : Prop :=
  ∃ (k : Nat) (lb : Int) (v : Value) (M : List Ext), m = Q.length - k ∧ k ≤ Q.length ∧ M ++ gapGo lb last (Q.drop k) = gapGo lba last Q ∧ M.length ≤ k ∧ Sm lb ∧ OwE (fun x => cO < x) w' v M ∧ RdE (fun x => w.heap.size ≤ x ∧ x < cO ∧ x ≠ cL) w' v8 Q ∧
    RepX (frame0 w) ⟨[(31, 0, .v (.int .i64 k)), (30, 0, .v (.int .i64 Q.length)), (29, 0, .v v8), (11, 0, .fn (.func 30) [] [.ptr 0 cL 0, .ptr 1 cO 0]), (12, 0, .v (.int .i64 last)), (4, 0, .ptr 0 cL 0), (10, 0, .ptr 1 cO 0)], [(cL, true, .cells [.v (.int .i64 lb)] 3), (cO, true, .cells [.v v] 22)], 0, 0, 46, [], [], []⟩ a w'

def GapsR (w : World) (L : List Ext) (lba n : Int) (e : Ending) (w' : World) : Prop :=
  (Chk L ∧ Blocks lba n ∧ ∃ (i k : Nat) (v' : Value), e = .returned (den (.tu [.v v', .v (.int .i64 0)])) ∧ PartIK L lba n i k ∧ OwE (fun x => w.heap.size ≤ x) w' v' (gapGo lba (lba + n) (partL L lba n i k)) ∧ Below w.heap.size w w') ∨
  (¬ (Chk L ∧ Blocks lba n) ∧ e = .returned (den (.tu [.v (.slice none 0 0), .v (.int .i64 1)])) ∧ Below w.heap.size w w')

set_option maxRecDepth 100000 in
set_option maxHeartbeats 8000000 in
/-- Gaps. -/
theorem Gaps_ok {P : Nat → Prop} (w : World) (v : Value) (L : List Ext) (lba n : Int) (hL : RdE P w v L) (hn : L.length ≤ 100000) : Calls Try.prog 20 (denL [.v v, .v (.int .i64 lba), .v (.int .i64 n)]).toArray w (GapsR w L lba n) := by
  refine enter (F := frame0 w) Try.func20 rfl [.v v, .v (.int .i64 lba), .v (.int .i64 n)] [] (by simp [Try.f20]) trivial (keeps0 w) fun a hr => ?_
  refine seg cfg20_ok mixed PanicFree.body 1000 [] [] hr (by first | trivial | exact HpRep.nil | assumption) (by kernel_rfl) fun cL hcL => ?_
  simp (maxSteps := 10000000) [SX.vc, SX.stop, SX.contS, SX.contB, SX.contW, SX.contR, SX.contD, SX.sxStep, SX.stepPure, SX.stepNew, SX.stepStore, SX.stepKeep, SX.guardIx, SX.evOp, SX.opd, SX.opds, SX.optOpd, SX.look, SX.putS, SX.gobs, SX.AllP, SX.leave, SX.lookC, SX.lookB, SX.lookT, SX.lookN, SX.findK, SX.evBuiltin, SX.ints, SX.foldI, SX.evBin, SX.evInt, SX.evStr, SX.evEq, SX.arith, SX.evLoad, SX.shapeUp, SX.evFieldAddr, SX.evField, SX.evIndexAddr, SX.evIndex, SX.evFill, SX.evBuild, SX.szs, SX.cellsV, SX.evNew, SX.evStore, SX.spliceL, SX.SV.cells, SX.evConv, SX.evSlice, SX.bnd, SX.evNil, SX.evUn, SX.evPick, SX.pickOpd, SX.popTo, SX.cnd, SX.env0, SX.TD.isAgg, SX.TD.isIface, SX.tails, SX.NotAgg, SX.evLookup, SX.evConvH, SX.evPtrEq, SX.isCells, SX.thaw, SX.frz, SX.fixB, SX.rootIx, SX.Froz, SX.frzStep, SX.fork, Go.Value.cells, Go.undef, cfg20, Try.f20]
  refine ⟨by (unfold SX.Ob; first | trivial | omega | ((try simp only [SX.inK]); (try simp [SX.den, SX.IsU8, SX.AllP, *]); (try omega))), ?_⟩
  intro a1 w1 hr1 _
  refine post_call 17 [.v v, .v (.int .i64 lba), .v (.int .i64 n)] hr1 (wanted_none rfl) rfl (callable 17 Try.func17) (Part_ok w1 v L lba n (hL.below hr1.keeps.toBelow) (by omega)) ?_
  rintro e2 w2 (⟨hC, hB, i, k, v2, rfl, hIK, hO2, hb2⟩ | ⟨hno, rfl, hb2⟩)
  rotate_left
  · refine ⟨_, rfl, ?_⟩
    have h2 := hr1.ret hb2 19 (.tu [.v (.slice none 0 0), .v (.int .i64 1)]) rfl _ (hr1.all.below hb2) (by simp) rfl
    refine seg cfg20_ok mixed PanicFree.body 1000 [true] [] h2 (by first | trivial | exact HpRep.nil | assumption) (by kernel_rfl) fun s_ hs_ => ?_
    simp (maxSteps := 10000000) [SX.vc, SX.stop, SX.contS, SX.contB, SX.contW, SX.contR, SX.contD, SX.sxStep, SX.stepPure, SX.stepNew, SX.stepStore, SX.stepKeep, SX.guardIx, SX.evOp, SX.opd, SX.opds, SX.optOpd, SX.look, SX.putS, SX.gobs, SX.AllP, SX.leave, SX.lookC, SX.lookB, SX.lookT, SX.lookN, SX.findK, SX.evBuiltin, SX.ints, SX.foldI, SX.evBin, SX.evInt, SX.evStr, SX.evEq, SX.arith, SX.evLoad, SX.shapeUp, SX.evFieldAddr, SX.evField, SX.evIndexAddr, SX.evIndex, SX.evFill, SX.evBuild, SX.szs, SX.cellsV, SX.evNew, SX.evStore, SX.spliceL, SX.SV.cells, SX.evConv, SX.evSlice, SX.bnd, SX.evNil, SX.evUn, SX.evPick, SX.pickOpd, SX.popTo, SX.cnd, SX.env0, SX.TD.isAgg, SX.TD.isIface, SX.tails, SX.NotAgg, SX.evLookup, SX.evConvH, SX.evPtrEq, SX.isCells, SX.thaw, SX.frz, SX.fixB, SX.rootIx, SX.Froz, SX.frzStep, SX.fork, Go.Value.cells, Go.undef, cfg20]
    refine ⟨by (unfold SX.Ob; first | trivial | omega | ((try simp only [SX.inK]); (try simp [SX.den, SX.IsU8, SX.AllP, *]); (try omega))), ?_⟩
    intro a3 w3 hr3 _
    exact post_retn (end2 hr3 rfl rfl rfl (.inr ⟨hno, by simp [den, denL], hr3.keeps.toBelow⟩)).1
  refine ⟨_, rfl, ?_⟩
  obtain ⟨d2, c2, rfl⟩ := hO2.slice
  have h2 := hr1.ret hb2 19 (.tu [.v (.slice d2 (partL L lba n i k).length c2), .v (.int .i64 0)]) rfl _ (hr1.all.below hb2) (by simp) rfl
  obtain ⟨sm1, sm2, sm3⟩ := hB.sm
  have hs1 := sm1
  have hs2 := sm2
  have hs3 := sm3
  unfold Sm at hs1 hs2 hs3
  have hF := part_facts hC hB hIK
  obtain ⟨Q, hQ⟩ : ∃ Q, Q = partL L lba n i k := ⟨_, rfl⟩
  rw [← hQ] at hO2 h2 hF ⊢
  have hQl : Q.length ≤ 100000 := Nat.le_trans hF.len hn
  refine seg cfg20_ok mixed PanicFree.body 1000 [false] [] h2.rebase (by first | trivial | exact HpRep.nil | assumption) (by kernel_rfl) fun cO hcO => ?_
  simp (maxSteps := 10000000) [SX.vc, SX.stop, SX.contS, SX.contB, SX.contW, SX.contR, SX.contD, SX.sxStep, SX.stepPure, SX.stepNew, SX.stepStore, SX.stepKeep, SX.guardIx, SX.evOp, SX.opd, SX.opds, SX.optOpd, SX.look, SX.putS, SX.gobs, SX.AllP, SX.leave, SX.lookC, SX.lookB, SX.lookT, SX.lookN, SX.findK, SX.evBuiltin, SX.ints, SX.foldI, SX.evBin, SX.evInt, SX.evStr, SX.evEq, SX.arith, SX.evLoad, SX.shapeUp, SX.evFieldAddr, SX.evField, SX.evIndexAddr, SX.evIndex, SX.evFill, SX.evBuild, SX.szs, SX.cellsV, SX.evNew, SX.evStore, SX.spliceL, SX.SV.cells, SX.evConv, SX.evSlice, SX.bnd, SX.evNil, SX.evUn, SX.evPick, SX.pickOpd, SX.popTo, SX.cnd, SX.env0, SX.TD.isAgg, SX.TD.isIface, SX.tails, SX.NotAgg, SX.evLookup, SX.evConvH, SX.evPtrEq, SX.isCells, SX.thaw, SX.frz, SX.fixB, SX.rootIx, SX.Froz, SX.frzStep, SX.fork, Go.Value.cells, Go.undef, cfg20]
  refine ⟨by (unfold SX.Ob; first | trivial | omega | ((try simp only [SX.inK]); (try simp [SX.den, SX.IsU8, SX.AllP, *]); (try omega))), ?_⟩
  intro a3 w3 hr3' _
  have hr3 := h2.unbase hr3'
  have l1 := SO.rep_lt hr1.all.1.1
  have z1 : w.heap.size ≤ w1.heap.size := hr1.keeps.size
  have z2 : w1.heap.size ≤ w2.heap.size := hb2.size
  have hO3 := ((hO2.mono (P' := fun x => w.heap.size ≤ x ∧ x < cO ∧ x ≠ cL) fun x h1 h2 => ⟨by omega, by omega, by omega⟩).keep hr3'.keeps (by
    intro x hx
    simp [frameAt, mutB] at hx
    omega)).rd
  refine post_loop (GLoop w (.slice d2 Q.length c2) Q lba (lba + n) cL cO) Q.length ⟨0, lba, _, [], rfl, by omega, rfl, by simp, sm1, OwS.nil, hO3, hr3.re (by simp [envTo, SX.look]) hr3.all rfl rfl⟩ ?_
  rintro m a4 w4 ⟨q, lb, v4, M, rfl, hq, hM, hMl, hsl, hO4, hQ4, hr4⟩
  have z4 : w.heap.size ≤ w4.heap.size := hr4.keeps.size
  have hA4 := hr4.all
  have c4 := SO.rep_lt hA4.1.1
  have o4 := SO.rep_lt hA4.2.1.1
  have hcO0 : w.heap.size ≤ cO := by omega
  have hneq : cL ≠ cO := by omega
  by_cases hlt : q < Q.length
  · obtain ⟨b, o0, cap, u, fz, hP, hv, hrep⟩ := hQ4.opn hlt
    cases hv
    obtain ⟨x, hx⟩ : ∃ x, nth ext0 Q q = x := ⟨_, rfl⟩
    have hMx : May x := hx ▸ hF.good.may _ (nth_mem hlt)
    have hxs := hMx.sm
    obtain ⟨x1, x2, x3⟩ := hxs
    unfold Sm at x1 x2
    rw [gapGo_append hlt, hx] at hM
    have h5 := (hr4.top 29 (.sl 2 b o0 0 Q.length c2 5) rfl (by simp [den])).see _ (hA4.append (x := (b, false, .arr o0 Q.length (fun j => extC (nth ext0 Q j)) 5 u fz)) hrep (by simp) (by
      intro e he
      simp only [List.mem_cons, List.not_mem_nil, or_false] at he
      rcases he with rfl | rfl
      · exact fun h => hP.2.2 h.symm
      · exact fun h => by
          have h' : cO = b := h
          omega))
    refine seg cfg20_ok mixed PanicFree.body 1000 [true] [] h5.rebase (by first | trivial | exact HpRep.nil | assumption) (by kernel_rfl) fun sB hsB => ?_
    simp (maxSteps := 10000000) [SX.vc, SX.stop, SX.contS, SX.contB, SX.contW, SX.contR, SX.contD, SX.sxStep, SX.stepPure, SX.stepNew, SX.stepStore, SX.stepKeep, SX.guardIx, SX.evOp, SX.opd, SX.opds, SX.optOpd, SX.look, SX.putS, SX.gobs, SX.AllP, SX.leave, SX.lookC, SX.lookB, SX.lookT, SX.lookN, SX.findK, SX.evBuiltin, SX.ints, SX.foldI, SX.evBin, SX.evInt, SX.evStr, SX.evEq, SX.arith, SX.evLoad, SX.shapeUp, SX.evFieldAddr, SX.evField, SX.evIndexAddr, SX.evIndex, SX.evFill, SX.evBuild, SX.szs, SX.cellsV, SX.evNew, SX.evStore, SX.spliceL, SX.SV.cells, SX.evConv, SX.evSlice, SX.bnd, SX.evNil, SX.evUn, SX.evPick, SX.pickOpd, SX.popTo, SX.cnd, SX.env0, SX.TD.isAgg, SX.TD.isIface, SX.tails, SX.NotAgg, SX.evLookup, SX.evConvH, SX.evPtrEq, SX.isCells, SX.thaw, SX.frz, SX.fixB, SX.rootIx, SX.Froz, SX.frzStep, SX.fork, Go.Value.cells, Go.undef, cfg20, extC, hx]
    refine ⟨by (unfold SX.Ob; first | trivial | omega | ((try simp only [SX.inK]); (try simp [SX.den, SX.IsU8, SX.AllP, *]); (try omega))), ?_⟩
    intro a6 w6 hr6' _
    have hr6 := h5.unbase hr6'
    have z6 : w4.heap.size ≤ w6.heap.size := hr6'.keeps.size
    have hA6 := hr6.all
    have b6 := SO.rep_lt hA6.2.2.2.1.1
    have hO6 := (hO4.mono (P' := fun y => (cO < y ∧ y < w4.heap.size) ∨ w6.heap.size ≤ y) fun y h1 h2 => .inl ⟨h2, h1⟩).keep hr6'.keeps (by
      intro y hy
      simp [frameAt, mutB] at hy
      rcases hy with rfl | rfl <;> omega)
    refine post_call 30 [.v (.int .i64 x.lba), .ptr 0 cL 0, .ptr 1 cO 0] hr6 (wanted_none rfl) rfl (callable 30 Try.func30) (gapc_ok w6 lb x.lba cL cO v4 M hA6.1.1 hA6.2.1.1 hneq hO6 (fun y hy => .inr hy) (by omega) (by omega) hsl hMx.sm.lba (by omega)) ?_
    rintro e7 w7 ⟨rfl, v7, B7, hc7, hO7, hB7, hk7⟩
    refine ⟨_, rfl, ?_⟩
    have hB7' : ∀ y ∈ B7, cO < y ∧ y < w4.heap.size := fun y hy => by
      obtain ⟨h1 | h1, h2⟩ := hB7 y hy
      · exact h1
      · omega
    have nm : ∀ y, y ≠ cO → ¬ (cO < y ∧ y < w4.heap.size) → y ∉ cO :: B7 := fun y h1 h2 h3 => by
      rcases List.mem_cons.1 h3 with h | h
      · exact h1 h
      · exact h2 (hB7' y h)
    have h7 := hr6.retK hk7 (fun y hy => .inl (by
      show w.heap.size ≤ y
      rcases List.mem_cons.1 hy with h | h
      · omega
      · have := hB7' y h
        omega)) 38 (.tu []) (v := .tuple #[]) (by simp [den, denL]) [(cL, true, .cells [.v (.int .i64 lb)] 3), (cO, true, .cells [.v v7] 22), (b, false, .arr o0 Q.length (fun j => extC (nth ext0 Q j)) 5 u fz), (sB, true, .cells (extC x) 24)]
      ⟨⟨hk7.same hA6.1.1 (nm _ (by omega) (by omega)), hA6.1.2.1, by simp; omega⟩, ⟨hc7, hA6.2.1.2.1, by simp; omega⟩, ⟨hk7.same hA6.2.2.1.1 (nm _ (by omega) (by omega)), by simp, by simp; omega⟩, ⟨hk7.same hA6.2.2.2.1.1 (nm _ (by omega) (by omega)), hA6.2.2.2.1.2.1, by simp⟩, trivial⟩ (by simp) rfl
    have z7 : w6.heap.size ≤ w7.heap.size := hk7.size
    refine seg cfg20_ok mixed PanicFree.body 1000 [] [] h7.rebase (by first | trivial | exact HpRep.nil | assumption) (by kernel_rfl) fun s_ hs_ => ?_
    simp (maxSteps := 10000000) [SX.vc, SX.stop, SX.contS, SX.contB, SX.contW, SX.contR, SX.contD, SX.sxStep, SX.stepPure, SX.stepNew, SX.stepStore, SX.stepKeep, SX.guardIx, SX.evOp, SX.opd, SX.opds, SX.optOpd, SX.look, SX.putS, SX.gobs, SX.AllP, SX.leave, SX.lookC, SX.lookB, SX.lookT, SX.lookN, SX.findK, SX.evBuiltin, SX.ints, SX.foldI, SX.evBin, SX.evInt, SX.evStr, SX.evEq, SX.arith, SX.evLoad, SX.shapeUp, SX.evFieldAddr, SX.evField, SX.evIndexAddr, SX.evIndex, SX.evFill, SX.evBuild, SX.szs, SX.cellsV, SX.evNew, SX.evStore, SX.spliceL, SX.SV.cells, SX.evConv, SX.evSlice, SX.bnd, SX.evNil, SX.evUn, SX.evPick, SX.pickOpd, SX.popTo, SX.cnd, SX.env0, SX.TD.isAgg, SX.TD.isIface, SX.tails, SX.NotAgg, SX.evLookup, SX.evConvH, SX.evPtrEq, SX.isCells, SX.thaw, SX.frz, SX.fixB, SX.rootIx, SX.Froz, SX.frzStep, SX.fork, Go.Value.cells, Go.undef, cfg20, extC]
    refine ⟨by (unfold SX.Ob; first | trivial | omega | ((try simp only [SX.inK]); (try simp [SX.den, SX.IsU8, SX.AllP, *]); (try omega))), ?_⟩
    intro a8 w8 hr8 _
    refine post_call 31 [.ag (extC x)] hr8 (by first | exact wanted_none rfl | exact wanted_zero (hr8.env.same rfl rfl rfl rfl) rfl (by simp)) rfl (callable 31 Try.func31) (end_ok w8 x hMx.sm) ?_
    rintro e9 w9 ⟨rfl, hb9⟩
    refine ⟨_, rfl, ?_⟩
    have h9 := hr8.ret hb9 40 (.v (.int .i64 (x.lba + x.n))) rfl _ (hr8.all.below hb9) (by simp) rfl
    refine seg cfg20_ok mixed PanicFree.body 1000 [] [] h9 (by first | trivial | exact HpRep.nil | assumption) (by kernel_rfl) fun s_ hs_ => ?_
    simp (maxSteps := 10000000) [SX.vc, SX.stop, SX.contS, SX.contB, SX.contW, SX.contR, SX.contD, SX.sxStep, SX.stepPure, SX.stepNew, SX.stepStore, SX.stepKeep, SX.guardIx, SX.evOp, SX.opd, SX.opds, SX.optOpd, SX.look, SX.putS, SX.gobs, SX.AllP, SX.leave, SX.lookC, SX.lookB, SX.lookT, SX.lookN, SX.findK, SX.evBuiltin, SX.ints, SX.foldI, SX.evBin, SX.evInt, SX.evStr, SX.evEq, SX.arith, SX.evLoad, SX.shapeUp, SX.evFieldAddr, SX.evField, SX.evIndexAddr, SX.evIndex, SX.evFill, SX.evBuild, SX.szs, SX.cellsV, SX.evNew, SX.evStore, SX.spliceL, SX.SV.cells, SX.evConv, SX.evSlice, SX.bnd, SX.evNil, SX.evUn, SX.evPick, SX.pickOpd, SX.popTo, SX.cnd, SX.env0, SX.TD.isAgg, SX.TD.isIface, SX.tails, SX.NotAgg, SX.evLookup, SX.evConvH, SX.evPtrEq, SX.isCells, SX.thaw, SX.frz, SX.fixB, SX.rootIx, SX.Froz, SX.frzStep, SX.fork, Go.Value.cells, Go.undef, cfg20]
    refine ⟨by (unfold SX.Ob; first | trivial | omega | ((try simp only [SX.inK]); (try simp [SX.den, SX.IsU8, SX.AllP, *]); (try omega))), ?_⟩
    intro a10 w10 hr10' _
    have hr10 := h7.unbase hr10'
    have hO10 := (hO7.keep hr10'.keeps (by
      intro y hy
      simp [frameAt, mutB] at hy
      rcases hy with rfl | rfl | rfl <;> omega)).mono (P' := fun y => cO < y) fun y _ h => h.elim (fun h => h.1) (fun h => by omega)
    have hQ10 := ((hQ4.keep hr6'.keeps (by
      intro y hy
      simp [frameAt, mutB] at hy
      rcases hy with rfl | rfl <;> omega)).keep hk7 (by
      intro y hy h
      rcases List.mem_cons.1 hy with h1 | h1
      · omega
      · have := hB7' y h1
        omega)).keep hr10'.keeps (by
      intro y hy
      simp [frameAt, mutB] at hy
      rcases hy with rfl | rfl | rfl <;> omega)
    have hgl : (gapL lb x.lba).length ≤ 1 := by unfold gapL; split <;> simp
    have hA10 := hr10.all
    exact post_rnd (Q.length - (q + 1)) (by omega) ⟨q + 1, x.lba + x.n, v7, M ++ gapL lb x.lba, rfl, hlt, by rw [List.append_assoc]; exact hM, by rw [List.length_append]; omega, by unfold May at hMx; unfold Sm; omega, hO10, hQ10, hr10.re (by simp [envTo, SX.look, den]) (hA10.take 2) rfl rfl⟩
  · obtain rfl : q = Q.length := by omega
    rw [List.drop_length, gapGo] at hM
    refine seg cfg20_ok mixed PanicFree.body 1000 [false] [] hr4.rebase (by first | trivial | exact HpRep.nil | assumption) (by kernel_rfl) fun s_ hs_ => ?_
    simp (maxSteps := 10000000) [SX.vc, SX.stop, SX.contS, SX.contB, SX.contW, SX.contR, SX.contD, SX.sxStep, SX.stepPure, SX.stepNew, SX.stepStore, SX.stepKeep, SX.guardIx, SX.evOp, SX.opd, SX.opds, SX.optOpd, SX.look, SX.putS, SX.gobs, SX.AllP, SX.leave, SX.lookC, SX.lookB, SX.lookT, SX.lookN, SX.findK, SX.evBuiltin, SX.ints, SX.foldI, SX.evBin, SX.evInt, SX.evStr, SX.evEq, SX.arith, SX.evLoad, SX.shapeUp, SX.evFieldAddr, SX.evField, SX.evIndexAddr, SX.evIndex, SX.evFill, SX.evBuild, SX.szs, SX.cellsV, SX.evNew, SX.evStore, SX.spliceL, SX.SV.cells, SX.evConv, SX.evSlice, SX.bnd, SX.evNil, SX.evUn, SX.evPick, SX.pickOpd, SX.popTo, SX.cnd, SX.env0, SX.TD.isAgg, SX.TD.isIface, SX.tails, SX.NotAgg, SX.evLookup, SX.evConvH, SX.evPtrEq, SX.isCells, SX.thaw, SX.frz, SX.fixB, SX.rootIx, SX.Froz, SX.frzStep, SX.fork, Go.Value.cells, Go.undef, cfg20]
    refine ⟨by (unfold SX.Ob; first | trivial | omega | ((try simp only [SX.inK]); (try simp [SX.den, SX.IsU8, SX.AllP, *]); (try omega))), ?_⟩
    intro a6 w6 hr6' _
    have hr6 := hr4.unbase hr6'
    have hA6 := hr6.all
    have z6 : w4.heap.size ≤ w6.heap.size := hr6'.keeps.size
    have hO6 := hO4.keep hr6'.keeps (by
      intro y hy
      simp [frameAt, mutB] at hy
      rcases hy with rfl | rfl <;> omega)
    refine post_call 30 [.v (.int .i64 (lba + n)), .ptr 0 cL 0, .ptr 1 cO 0] hr6 (wanted_none rfl) rfl (callable 30 Try.func30) (gapc_ok w6 lb (lba + n) cL cO v4 M hA6.1.1 hA6.2.1.1 hneq hO6 (fun y hy => by omega) (by omega) (by omega) hsl sm3 (by omega)) ?_
    rintro e7 w7 ⟨rfl, v7, B7, hc7, hO7, hB7, hk7⟩
    refine ⟨_, rfl, ?_⟩
    rw [hM] at hO7
    have h7 := hr6.retK hk7 (fun y hy => .inl (by
      show w.heap.size ≤ y
      rcases List.mem_cons.1 hy with h | h
      · omega
      · have := (hB7 y h).1
        omega)) 44 (.tu []) (v := .tuple #[]) (by simp [den, denL]) [(cL, true, .cells [.v (.int .i64 lb)] 3), (cO, true, .cells [.v v7] 22)]
      ⟨⟨hk7.same hA6.1.1 (fun h => by
        rcases List.mem_cons.1 h with h | h
        · omega
        · have := (hB7 _ h).1
          omega), hA6.1.2.1, by simp; omega⟩, ⟨hc7, hA6.2.1.2.1, by simp⟩, trivial⟩ (by simp) rfl
    obtain ⟨d7, c7, rfl⟩ := hO7.slice
    refine seg cfg20_ok mixed PanicFree.body 1000 [] [] h7.rebase (by first | trivial | exact HpRep.nil | assumption) (by kernel_rfl) fun s_ hs_ => ?_
    simp (maxSteps := 10000000) [SX.vc, SX.stop, SX.contS, SX.contB, SX.contW, SX.contR, SX.contD, SX.sxStep, SX.stepPure, SX.stepNew, SX.stepStore, SX.stepKeep, SX.guardIx, SX.evOp, SX.opd, SX.opds, SX.optOpd, SX.look, SX.putS, SX.gobs, SX.AllP, SX.leave, SX.lookC, SX.lookB, SX.lookT, SX.lookN, SX.findK, SX.evBuiltin, SX.ints, SX.foldI, SX.evBin, SX.evInt, SX.evStr, SX.evEq, SX.arith, SX.evLoad, SX.shapeUp, SX.evFieldAddr, SX.evField, SX.evIndexAddr, SX.evIndex, SX.evFill, SX.evBuild, SX.szs, SX.cellsV, SX.evNew, SX.evStore, SX.spliceL, SX.SV.cells, SX.evConv, SX.evSlice, SX.bnd, SX.evNil, SX.evUn, SX.evPick, SX.pickOpd, SX.popTo, SX.cnd, SX.env0, SX.TD.isAgg, SX.TD.isIface, SX.tails, SX.NotAgg, SX.evLookup, SX.evConvH, SX.evPtrEq, SX.isCells, SX.thaw, SX.frz, SX.fixB, SX.rootIx, SX.Froz, SX.frzStep, SX.fork, Go.Value.cells, Go.undef, cfg20]
    refine ⟨by (unfold SX.Ob; first | trivial | omega | ((try simp only [SX.inK]); (try simp [SX.den, SX.IsU8, SX.AllP, *]); (try omega))), ?_⟩
    intro a8 w8 hr8' _
    have hr8 := h7.unbase hr8'
    have hO8 := (hO7.keep hr8'.keeps (by
      intro y hy
      simp [frameAt, mutB] at hy
      rcases hy with rfl | rfl <;> omega)).mono (P' := fun y => w.heap.size ≤ y) fun y _ h => by omega
    exact post_retn (end2 hr8 rfl rfl rfl (.inl ⟨hC, hB, i, k, .slice d7 (gapGo lba (lba + n) Q).length c7, by simp only [den, denL], hIK, by rw [← hQ]; exact hO8, hr8.keeps.toBelow⟩)).1
end Go.Proofs
