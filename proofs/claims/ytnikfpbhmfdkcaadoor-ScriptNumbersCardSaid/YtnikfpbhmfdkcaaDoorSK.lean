/- Script: an act that is written. -/
import Derived.Test.YtnikfpbhmfdkcaaDoorSJ
namespace Go.Proofs
set_option linter.unusedVariables false
set_option linter.unusedSimpArgs false
set_option linter.unusedSectionVars false
open Go Go.SX Go.RowKit Go.Script

abbrev actC (x : Ac) (b8 : Int) : List SV := [.v (.int .i64 x.d), .v (.int .i64 x.host), .v (.int .i64 x.zone), .v (.int .i64 x.lba), .v (.int .i64 x.n), .v (.int .u8 b8), .v (.int .i64 x.keep)]
def isLoc : SO → Bool
  | .cells _ t => t != 5
  | _ => false
theorem loc_mB {F : Fr} {w : World} {B b : Nat} {H : Hp} (h : HpAll F w H) (ht : H.all (fun e => isLoc e.2.2) = true) (hne : ∀ e ∈ H, e.1 ≠ b) : ∀ x ∈ mutB H, x ∉ mB B b w := by
  intro x hx
  obtain ⟨i, o, hi⟩ := of_mem_mutB hx
  have hm := List.mem_of_getElem? hi
  have h1 := List.all_eq_true.1 ht _ hm
  have h2 := (h.mem i x true o hi).1
  cases o with
  | cells l t => exact not_mB h2 (hne _ hm) (by simpa [isLoc] using h1)
  | _ => cases h1
theorem loc_all {F : Fr} {w : World} {B b : Nat} {H : Hp} (h : HpAll F w H) (ht : H.all (fun e => isLoc e.2.2) = true) (hne : ∀ e ∈ H, e.1 ≠ b) : ∀ e ∈ H, e.1 ∉ mB B b w := by
  intro e he
  obtain ⟨i, hi⟩ := List.getElem?_of_mem he
  obtain ⟨x, m, o⟩ := e
  have h1 := List.all_eq_true.1 ht _ he
  have h2 := (h.mem i x m o hi).1
  cases o with
  | cells l t => exact not_mB h2 (hne _ he) (by simpa [isLoc] using h1)
  | _ => cases h1
theorem PrA.below {B b : Nat} {bs : L8} {bad : Bool} {w w' : World} (h : PrA B b bs bad w) (hb : Below w.heap.size w w') : PrA B b bs bad w' := h.keep (KeepsTo.below hb []) (by simp)
theorem PrA.b_mem {B b : Nat} {bs : L8} {bad : Bool} {w : World} (h : PrA B b bs bad w) : b ∈ mB B b w := mem_mB.2 ⟨h.lt, .inl rfl⟩
theorem rd_mB {α : Type} {enc : α → List SV} {sz : Nat} {d : α} {v : Value} {L : List α} {B b : Nat} {Q : Nat → Prop} {w1 w2 : World} {M : List Nat} (h : RdS enc sz d (fun y => y ∉ mB B b w1 ∧ Q y) w1 v L) (hk : KeepsTo w1 M w2) (hM : ∀ x ∈ M, x ∈ mB B b w1 ∨ ¬ Q x) : RdS enc sz d (fun y => y ∉ mB B b w2 ∧ Q y) w2 v L := by
  have h2 := h.keep hk fun x hx hp => (hM x hx).elim hp.1 fun hq => hq hp.2
  refine RdS.mono (RdS.mono (P' := fun y => (y ∉ mB B b w1 ∧ Q y) ∧ y < w1.heap.size) (h.mono fun x h1 h2 => ⟨h2, h1⟩) (fun _ _ h => h) |>.keep hk fun x hx hp => (hM x hx).elim hp.1.1 fun hq => hq hp.1.2) fun x _ hp => ⟨fun hm => ?_, hp.1.2⟩
  obtain ⟨_, h4⟩ := mem_mB.1 hm
  refine hp.1.1 (mem_mB.2 ⟨hp.2, h4.imp id fun h5 => ⟨h5.1, ?_⟩⟩)
  have hxM : x ∉ M := fun hx => (hM x hx).elim hp.1.1 fun hq => hq hp.1.2
  have h6 : w2.heap[x]? = w1.heap[x]? := hk.block x hp.2 hxM
  rw [← h6]
  exact h5.2
/-- The printer's block, seen. -/
theorem PrA.opn {B b : Nat} {bs : L8} {bad : Bool} {w : World} (h : PrA B b bs bad w) : ∃ p v, (SO.cells [.v p, .v v, .v (.bool bad)] 46).rep w b ∧ ∀ (w' : World) (M : List Nat) (bad' : Bool), KeepsTo w M w' → (∀ x ∈ M, x = b ∨ x ∉ mB B b w) → (SO.cells [.v p, .v v, .v (.bool bad')] 46).rep w' b → PrA B b bs bad' w' := by
  have hb0 := h.b_mem
  obtain ⟨g, hB, p, v, hp, hb, ho, hv⟩ := h
  refine ⟨p, v, hb, fun w' M bad' hk hM hr => ⟨g, hB, p, v, hp, hr, ownsRow_keep ho hk fun k hkM e => ?_, hv⟩⟩
  rcases hM k hkM with rfl | h1
  · rcases ho.2 with ⟨rfl, _⟩ | ⟨g', cap, cur, rfl, _, h2, _⟩
    · simp [Value.ownBlock] at e
    · simp only [Value.ownBlock, Option.some.injEq] at e
      subst e
      rw [hb] at h2
      cases h2
  · rcases ho.2 with ⟨rfl, _⟩ | ⟨g', cap, cur, rfl, h3, h2, _⟩
    · simp [Value.ownBlock] at e
    · simp only [Value.ownBlock, Option.some.injEq] at e
      subst e
      exact h1 (mem_mB.2 ⟨lt_of_heap h2, .inr ⟨h3, by rw [h2]; rfl⟩⟩)

theorem numP_len (s : Pr) (n : Int) : (numP s n).bs.length ≤ s.bs.length + 14 := by
  unfold numP
  split
  · simp
  · have := digs_len n.toNat 12 (by omega)
    simp
    omega
theorem numsP_d : ∀ (fs : List Nat) (s : Pr) (a : Ac), (∀ k ∈ fs, k = 1 ∨ k = 2 ∨ k = 3 ∨ k = 4 ∨ k = 5 ∨ k = 6) → (numsP fs s a).2.d = a.d
  | [], _, _, _ => rfl
  | k :: fs, s, a, h => by
    unfold numsP
    rw [numsP_d fs _ _ fun x hx => h x (by simp [hx])]
    rcases h k (by simp) with rfl | rfl | rfl | rfl | rfl | rfl <;> rfl
theorem numsP_by : ∀ (fs : List Nat) (s : Pr) (a : Ac), (∀ k ∈ fs, k = 1 ∨ k = 2 ∨ k = 3 ∨ k = 4 ∨ k = 5 ∨ k = 6) → (numsP fs s a).2.by_ = if 5 ∈ fs then 0 else a.by_
  | [], _, _, _ => rfl
  | k :: fs, s, a, h => by
    unfold numsP
    rw [numsP_by fs _ _ fun x hx => h x (by simp [hx])]
    rcases h k (by simp) with rfl | rfl | rfl | rfl | rfl | rfl <;> by_cases h5 : 5 ∈ fs <;> simp [h5, Ac.set]
theorem flds5 (d : Int) : 5 ∈ flds d ↔ d = 4 ∨ d = 8 := by
  unfold flds
  repeat' split
  all_goals simp
  all_goals omega
/-- Pointers to an act's numbers, as the executor has them. -/
def ptrR (i j rB yB : Nat) (kk : Nat) : List SV := [if kk = 5 then .ptr j yB 0 else .ptr i rB (0 + kk)]
theorem ptrR_den (i j rB yB kk : Nat) : denL (pRow rB 0 yB kk) = denL (ptrR i j rB yB kk) := by
  unfold pRow ptrR
  by_cases h : kk = 5
  · simp [h, denL, den]
  · simp [h, denL, den]

theorem actW_len : ∀ q : Nat, q < 13 → (actW.getD q []).length ≤ 5 := by decide
theorem wordL_len (d : Int) : (wordL actW d).length ≤ 5 := by
  unfold wordL
  split
  · simp
  · rename_i hc
    have h13 : actW.length = 13 := rfl
    exact actW_len _ (by omega)
theorem B_sp (wd : L8) : Script.B (32 :: wd) = ⟨#[32]⟩ ++ Script.B wd := by
  have h := B_append [32] wd
  rw [List.singleton_append] at h
  exact h
theorem side37 : eqSide Tryd.prog 37 = true := by kernel_rfl
theorem ok37 : ∀ t, (t == 37) = true → eqSide Tryd.prog t = true := by
  intro t h
  have e : t = 37 := by simpa using h
  rw [e]
  exact side37
theorem ac_beq (x y : Ac) : (x.d == y.d && (x.host == y.host && (x.zone == y.zone && (x.lba == y.lba && (x.n == y.n && (x.by_ == y.by_ && x.keep == y.keep)))))) = decide (x = y) := by
  rw [Bool.eq_iff_iff]
  simp only [Bool.and_eq_true, beq_iff_eq, decide_eq_true_eq]
  cases x; cases y
  simp
theorem eqAc {tt : List (Nat × TI)} {ok : Nat → Bool} (x y : Ac) (h1 : lookT tt 37 = some ⟨.struct [(0, 3), (1, 3), (2, 3), (3, 3), (4, 3), (5, 5), (6, 3)], 7, 56, .agg #[.int .i64 0, .int .i64 0, .int .i64 0, .int .i64 0, .int .i64 0, .int .u8 0, .int .i64 0]⟩ := by rfl) (h3 : lookT tt 3 = some ⟨.int .i64, 1, 8, .int .i64 0⟩ := by rfl) (h5 : lookT tt 5 = some ⟨.int .u8, 1, 1, .int .u8 0⟩ := by rfl) (hok : ok 37 = true := by rfl) :
    evEqA tt ok 40 37 (.ag (actC x x.by_)) (.ag (actC y y.by_)) = some (decide (x = y)) := by
  rw [← ac_beq]
  simp [evEqA, evEqF, eqPlain, h1, h3, h5, hok, shapeUp, TD.isAgg]

def ActL (F : Fr) (B b A1 yB rB : Nat) (Q : Nat → Prop) (s1 : Pr) (a0 : Ac) (n : Nat) (vf : Value) (m : Nat) (a : Act) (w' : World) : Prop :=
  ∃ (k : Nat) (s : Pr) (ac : Ac), m = n - k ∧ k ≤ n ∧ numsP (flds a0.d) s1 a0 = numsP ((flds a0.d).drop k) s ac ∧ s.bs.length ≤ s1.bs.length + 14 * k ∧ ac.d = a0.d ∧ PrA B b s.bs s.bad w' ∧ RdS (pRow rB 0 yB) 1 0 (fun y => y ∉ mB B b w' ∧ Q y) w' vf (flds a0.d) ∧
    RepX F ⟨[(30, 0, .v (.int .i64 k)), (29, 0, .v (.int .i64 n)), (28, 0, .v vf), (6, 0, .ptr 2 rB 0), (5, 0, .ptr 1 yB 0), (3, 0, .ptr 0 A1 0), (0, 0, .v (.pointer (some ⟨b, 0, none⟩)))],
      [(A1, true, .cells (actC a0 a0.by_) 37), (yB, true, .cells [.v (.int .i64 ac.by_)] 3), (rB, true, .cells (actC ac a0.by_) 37)], 0, 0, 59, [], [], []⟩ a w'

set_option maxRecDepth 100000 in
set_option maxHeartbeats 16000000 in
/-- act. -/
theorem actP_ok (w : World) (B b : Nat) (bs : L8) (bad : Bool) (x : Ac) (h : PrA B b bs bad w) (hlen : bs.length ≤ 100000000000) (hby : 0 ≤ x.by_ ∧ x.by_ < 256) : Calls Tryd.prog 21 (denL [.v (.pointer (some ⟨b, 0, none⟩)), .ag (actC x x.by_)]).toArray w fun e w' =>
    e = .returned (.tuple #[]) ∧ PrA B b (actP ⟨bs, bad⟩ x).bs (actP ⟨bs, bad⟩ x).bad w' ∧ KeepsTo w (mB B b w) w' := by
  have hblt := h.lt
  refine enter (F := ⟨w, w.heap.size, mB B b w⟩) Tryd.func21 rfl [.v (.pointer (some ⟨b, 0, none⟩)), .ag (actC x x.by_)] [] (by simp [Tryd.f21, denL, den]) trivial (KeepsTo.refl w _) fun a hr => ?_
  refine seg cfg21_ok mixed PanicFree.body 1000 [] [] hr.rebase (by first | trivial | exact HpRep.nil | assumption) (by kernel_rfl) fun A1 hA1 => ?_
  simp (maxSteps := 10000000) [SX.vc, SX.stop, SX.contS, SX.contB, SX.contW, SX.contR, SX.contD, SX.sxStep, SX.stepPure, SX.stepNew, SX.stepStore, SX.stepKeep, SX.guardIx, SX.evOp, SX.opd, SX.opds, SX.optOpd, SX.look, SX.putS, SX.gobs, SX.AllP, SX.leave, SX.lookC, SX.lookB, SX.lookT, SX.lookN, SX.findK, SX.evBuiltin, SX.ints, SX.foldI, SX.evBin, SX.evInt, SX.evStr, SX.evEq, SX.arith, SX.evLoad, SX.shapeUp, SX.evFieldAddr, SX.evField, SX.evIndexAddr, SX.evIndex, SX.evFill, SX.evBuild, SX.szs, SX.cellsV, SX.evNew, SX.evStore, SX.spliceL, SX.SV.cells, SX.evConv, SX.evSlice, SX.bnd, SX.evNil, SX.evUn, SX.evPick, SX.pickOpd, SX.popTo, SX.cnd, SX.env0, SX.TD.isAgg, SX.TD.isIface, SX.tails, SX.NotAgg, SX.evLookup, SX.evConvH, SX.evPtrEq, SX.isCells, SX.thaw, SX.frz, SX.fixB, SX.rootIx, SX.Froz, SX.frzStep, SX.fork, Go.Value.cells, Go.undef, cfg21, Tryd.f21]
  refine ⟨by (unfold SX.Ob; first | trivial | omega | ((try simp only [SX.inK]); (try simp [SX.den, SX.IsU8, SX.AllP, *]); (try omega))), ?_⟩
  intro a1 w1 hr1' ht1
  have hr1 := hr.unbase hr1'
  have hP1 := h.keep hr1'.keeps (by simp [frameAt, mutB])
  have hA1 : A1 ≠ b := by omega
  have hlA1 := loc_mB (B := B) hr1.all rfl (by simp; omega)
  refine post_callD 26 [] hr1 rfl (by first | exact wanted_none rfl | exact wanted_zero (hr1.env.same rfl rfl rfl rfl) rfl (by simp) | exact wanted_zero (hr1.env.same rfl rfl rfl rfl) rfl (by simp [*])) rfl (callable 26 Tryd.func26) (actWords_ok w1) ?_
  rintro e2 w2 ⟨⟨v2, rfl, hW2⟩, hb2⟩
  have ht2 := HpRep_below ht1 hb2
  refine ⟨_, rfl, ht2, ?_⟩
  have h2 := hr1.ret hb2 9 (.v v2) rfl _ (hr1.all.below hb2) (by simp) rfl
  have hP2 := hP1.below hb2
  have hword := word_ok w2 v2 actW x.d (hW2.mono fun y h _ => h)
  obtain ⟨wd, hwd⟩ : ∃ wd, wordL actW x.d = wd := ⟨_, rfl⟩
  rw [hwd] at hword
  refine post_callD 16 [.v v2, .v (.int .i64 x.d)] h2 rfl (by first | exact wanted_none rfl | exact wanted_zero (h2.env.same rfl rfl rfl rfl) rfl (by simp) | exact wanted_zero (h2.env.same rfl rfl rfl rfl) rfl (by simp [*])) rfl (callable 16 Tryd.func16) (hword) ?_
  rintro e3 w3 ⟨rfl, hb3⟩
  have ht3 := HpRep_below ht2 hb3
  refine ⟨_, rfl, ht3, ?_⟩
  have h3 := h2.ret hb3 12 (.v (.string (Script.B wd))) rfl _ (h2.all.below hb3) (by simp) rfl
  have hP3 := hP2.below hb3
  have hb3' : x.d = x.d := rfl
  refine seg cfg21_ok mixed PanicFree.body 1000 [] [] h3.rebase (by first | trivial | exact HpRep.nil | assumption) (by kernel_rfl) fun s_ hs_ => ?_
  simp (maxSteps := 10000000) [SX.vc, SX.stop, SX.contS, SX.contB, SX.contW, SX.contR, SX.contD, SX.sxStep, SX.stepPure, SX.stepNew, SX.stepStore, SX.stepKeep, SX.guardIx, SX.evOp, SX.opd, SX.opds, SX.optOpd, SX.look, SX.putS, SX.gobs, SX.AllP, SX.leave, SX.lookC, SX.lookB, SX.lookT, SX.lookN, SX.findK, SX.evBuiltin, SX.ints, SX.foldI, SX.evBin, SX.evInt, SX.evStr, SX.evEq, SX.arith, SX.evLoad, SX.shapeUp, SX.evFieldAddr, SX.evField, SX.evIndexAddr, SX.evIndex, SX.evFill, SX.evBuild, SX.szs, SX.cellsV, SX.evNew, SX.evStore, SX.spliceL, SX.SV.cells, SX.evConv, SX.evSlice, SX.bnd, SX.evNil, SX.evUn, SX.evPick, SX.pickOpd, SX.popTo, SX.cnd, SX.env0, SX.TD.isAgg, SX.TD.isIface, SX.tails, SX.NotAgg, SX.evLookup, SX.evConvH, SX.evPtrEq, SX.isCells, SX.thaw, SX.frz, SX.fixB, SX.rootIx, SX.Froz, SX.frzStep, SX.fork, Go.Value.cells, Go.undef, cfg21, BtoList, litToList]
  refine ⟨by (unfold SX.Ob; first | trivial | omega | ((try simp only [SX.inK]); (try simp [SX.den, SX.IsU8, SX.AllP, *]); (try omega))), ?_⟩
  intro a4 w4 hr4' _
  have hr4 := h3.unbase hr4'
  have hP4 := hP3.keep hr4'.keeps (loc_mB (H := [(A1, true, .cells (actC x x.by_) 37)]) (F := ⟨w, w.heap.size, mB B b w⟩) (h3.all) rfl (by simp; omega))
  have hmem : b ∈ mB B b w := h.b_mem
  obtain ⟨bw, hbw⟩ : ∃ bw, (wd == []) = bw := ⟨_, rfl⟩
  refine post_cut (fun a' w' => PrA B b bs (bad || bw) w' ∧ RepX ⟨w, w.heap.size, mB B b w⟩ ⟨[(4, 0, .v (.string (Script.B wd))), (3, 0, .ptr 0 A1 0), (0, 0, .v (.pointer (some ⟨b, 0, none⟩)))], [(A1, true, .cells (actC x x.by_) 37)], 0, 0, 59, [], [], []⟩ a' w') 1 rfl ?_ fun a_ w_ hJ => ?_
  · by_cases hw0 : wd = []
    · obtain ⟨p, v, hpb, hcl⟩ := hP4.opn
      have hA4 := hr4.all
      have h5 := (hr4.top 0 (.ptr 1 b 0) rfl (by simp [den])).see [(A1, true, .cells (actC x x.by_) 37), (b, true, .cells [.v p, .v v, .v (.bool bad)] 46)] ⟨⟨hA4.1.1, hA4.1.2.1, by simp; omega⟩, ⟨hpb, fun _ => .inr hmem, by simp⟩, trivial⟩
      subst hw0
      refine seg cfg21_ok mixed PanicFree.body 1000 [true] [] h5.rebase (by first | trivial | exact HpRep.nil | assumption) (by kernel_rfl) fun s_ hs_ => ?_
      simp (maxSteps := 10000000) [SX.vc, SX.stop, SX.contS, SX.contB, SX.contW, SX.contR, SX.contD, SX.sxStep, SX.stepPure, SX.stepNew, SX.stepStore, SX.stepKeep, SX.guardIx, SX.evOp, SX.opd, SX.opds, SX.optOpd, SX.look, SX.putS, SX.gobs, SX.AllP, SX.leave, SX.lookC, SX.lookB, SX.lookT, SX.lookN, SX.findK, SX.evBuiltin, SX.ints, SX.foldI, SX.evBin, SX.evInt, SX.evStr, SX.evEq, SX.arith, SX.evLoad, SX.shapeUp, SX.evFieldAddr, SX.evField, SX.evIndexAddr, SX.evIndex, SX.evFill, SX.evBuild, SX.szs, SX.cellsV, SX.evNew, SX.evStore, SX.spliceL, SX.SV.cells, SX.evConv, SX.evSlice, SX.bnd, SX.evNil, SX.evUn, SX.evPick, SX.pickOpd, SX.popTo, SX.cnd, SX.env0, SX.TD.isAgg, SX.TD.isIface, SX.tails, SX.NotAgg, SX.evLookup, SX.evConvH, SX.evPtrEq, SX.isCells, SX.thaw, SX.frz, SX.fixB, SX.rootIx, SX.Froz, SX.frzStep, SX.fork, Go.Value.cells, Go.undef, cfg21]
      refine ⟨by (unfold SX.Ob; first | trivial | omega | ((try simp only [SX.inK]); (try simp [SX.den, SX.IsU8, SX.AllP, *]); (try omega))), ?_⟩
      intro a6 w6 hr6' _
      have hr6 := h5.unbase hr6'
      have hA6 := hr6.all
      have hk6 := hr6'.keeps
      have hn4 := loc_all (B := B) (b := b) (H := [(A1, true, .cells (actC x x.by_) 37)]) hA4 rfl (by simp; omega)
      refine post_inv ⟨?_, hr6.re (by simp [envTo, SX.look, den]) ⟨⟨hA6.1.1, hA6.1.2.1, by simp⟩, trivial⟩ rfl rfl⟩
      obtain rfl : true = bw := hbw
      rw [Bool.or_true]
      refine hcl w6 _ true hk6 (fun y hy => ?_) hA6.2.1.1
      simp [frameAt, mutB] at hy
      rcases hy with rfl | rfl
      · exact .inr (hn4 _ (List.mem_singleton.2 rfl))
      · exact .inl rfl
    · have hf : (wd == []) = false := by simpa using hw0
      refine seg cfg21_ok mixed PanicFree.body 1000 [false] [] hr4.rebase (by first | trivial | exact HpRep.nil | assumption) (by kernel_rfl) fun s_ hs_ => ?_
      simp (maxSteps := 10000000) [SX.vc, SX.stop, SX.contS, SX.contB, SX.contW, SX.contR, SX.contD, SX.sxStep, SX.stepPure, SX.stepNew, SX.stepStore, SX.stepKeep, SX.guardIx, SX.evOp, SX.opd, SX.opds, SX.optOpd, SX.look, SX.putS, SX.gobs, SX.AllP, SX.leave, SX.lookC, SX.lookB, SX.lookT, SX.lookN, SX.findK, SX.evBuiltin, SX.ints, SX.foldI, SX.evBin, SX.evInt, SX.evStr, SX.evEq, SX.arith, SX.evLoad, SX.shapeUp, SX.evFieldAddr, SX.evField, SX.evIndexAddr, SX.evIndex, SX.evFill, SX.evBuild, SX.szs, SX.cellsV, SX.evNew, SX.evStore, SX.spliceL, SX.SV.cells, SX.evConv, SX.evSlice, SX.bnd, SX.evNil, SX.evUn, SX.evPick, SX.pickOpd, SX.popTo, SX.cnd, SX.env0, SX.TD.isAgg, SX.TD.isIface, SX.tails, SX.NotAgg, SX.evLookup, SX.evConvH, SX.evPtrEq, SX.isCells, SX.thaw, SX.frz, SX.fixB, SX.rootIx, SX.Froz, SX.frzStep, SX.fork, Go.Value.cells, Go.undef, cfg21, hw0]
      refine ⟨by (unfold SX.Ob; first | trivial | omega | ((try simp only [SX.inK]); (try simp [SX.den, SX.IsU8, SX.AllP, *]); (try omega))), ?_⟩
      intro a6 w6 hr6' _
      have hr6 := hr4.unbase hr6'
      have hA6 := hr6.all
      refine post_inv ⟨?_, hr6.re (by simp [envTo, SX.look, den]) ⟨⟨hA6.1.1, hA6.1.2.1, by simp⟩, trivial⟩ rfl rfl⟩
      obtain rfl : false = bw := by rw [← hbw, hf]
      rw [Bool.or_false]
      exact hP4.keep hr6'.keeps (loc_mB (H := [(A1, true, .cells (actC x x.by_) 37)]) hr4.all rfl (by simp; omega))
  obtain ⟨hP5, hr5⟩ := hJ
  clear hr hr1 hr1' h2 h3 hr4 hr4' hP1 hP2 hP3 hP4 hlA1 ht1 ht2 ht3
  obtain ⟨bd, hbd⟩ : ∃ bd, (bad || bw) = bd := ⟨_, rfl⟩
  rw [hbd] at hP5
  have hwl : wd.length ≤ 5 := by rw [← hwd]; exact wordL_len _
  have hsz : ((⟨#[32]⟩ : ByteArray).size : Int) + ((Script.B wd).size : Int) ≤ 9223372036854775807 := by rw [B_size, show (⟨#[32]⟩ : ByteArray).size = 1 from rfl]; omega
  have h6 := hr5.top 0 (.ptr 9 b 0) rfl (by simp [den])
  refine seg cfg21_ok mixed PanicFree.body 1000 [] [] h6.rebase (by first | trivial | exact HpRep.nil | assumption) (by kernel_rfl) fun s_ hs_ => ?_
  simp (maxSteps := 10000000) [SX.vc, SX.stop, SX.contS, SX.contB, SX.contW, SX.contR, SX.contD, SX.sxStep, SX.stepPure, SX.stepNew, SX.stepStore, SX.stepKeep, SX.guardIx, SX.evOp, SX.opd, SX.opds, SX.optOpd, SX.look, SX.putS, SX.gobs, SX.AllP, SX.leave, SX.lookC, SX.lookB, SX.lookT, SX.lookN, SX.findK, SX.evBuiltin, SX.ints, SX.foldI, SX.evBin, SX.evInt, SX.evStr, SX.evEq, SX.arith, SX.evLoad, SX.shapeUp, SX.evFieldAddr, SX.evField, SX.evIndexAddr, SX.evIndex, SX.evFill, SX.evBuild, SX.szs, SX.cellsV, SX.evNew, SX.evStore, SX.spliceL, SX.SV.cells, SX.evConv, SX.evSlice, SX.bnd, SX.evNil, SX.evUn, SX.evPick, SX.pickOpd, SX.popTo, SX.cnd, SX.env0, SX.TD.isAgg, SX.TD.isIface, SX.tails, SX.NotAgg, SX.evLookup, SX.evConvH, SX.evPtrEq, SX.isCells, SX.thaw, SX.frz, SX.fixB, SX.rootIx, SX.Froz, SX.frzStep, SX.fork, Go.Value.cells, Go.undef, cfg21, hsz]
  refine ⟨by (unfold SX.Ob; first | trivial | omega | ((try simp only [SX.inK]); (try simp [SX.den, SX.IsU8, SX.AllP, *]); (try omega))), ?_⟩
  intro a7 w7 hr7' _
  have hr7 := h6.unbase hr7'
  have hP7 := hP5.keep hr7'.keeps (loc_mB (H := [(A1, true, .cells (actC x x.by_) 37)]) hr5.all rfl (by simp; omega))
  have hws := writeStringA (32 :: wd) hP7 (by simp) (by simp; omega)
  obtain ⟨sv, hsv⟩ : ∃ sv, (⟨#[32]⟩ : ByteArray) ++ Script.B wd = sv := ⟨_, rfl⟩
  have hr7s := hr7.top 22 (.v (.string sv)) rfl (by rw [hsv])
  rw [show (⟨(32 :: wd).toArray⟩ : ByteArray) = sv from (B_sp wd).trans hsv] at hws
  obtain ⟨lw, hlw⟩ : ∃ lw : Nat, (32 :: wd).length = lw := ⟨_, rfl⟩
  rw [hlw] at hws
  refine post_call 19 [.ptr 9 b 0, .v (.string sv)] hr7s (wanted_none rfl) rfl (callable 19 Tryd.func19) hws ?_
  rintro e8 w8 ⟨rfl, hP8, hk8⟩
  refine ⟨_, rfl, ?_⟩
  have h8 := hr7s.retK hk8 (mB_step hr7s.keeps) 23 (.tu [.v (.int .i64 lw), .v .nilIface]) rfl _ (HpAll.to hk8 hr7s.all (loc_all hr7s.all rfl (by simp; omega))) (by simp) rfl
  have hbyi : (0 : Int) ≤ x.by_ ∧ x.by_ < 256 := hby
  have hwr : IntKind.i64.wrap x.by_ = x.by_ := IntWalk.i64_in _ (by omega)
  refine seg cfg21_ok mixed PanicFree.body 1000 [] [] h8.rebase (by first | trivial | exact HpRep.nil | assumption) (by kernel_rfl) fun yB hyB => ?_
  simp (maxSteps := 10000000) [SX.vc, SX.stop, SX.contS, SX.contB, SX.contW, SX.contR, SX.contD, SX.sxStep, SX.stepPure, SX.stepNew, SX.stepStore, SX.stepKeep, SX.guardIx, SX.evOp, SX.opd, SX.opds, SX.optOpd, SX.look, SX.putS, SX.gobs, SX.AllP, SX.leave, SX.lookC, SX.lookB, SX.lookT, SX.lookN, SX.findK, SX.evBuiltin, SX.ints, SX.foldI, SX.evBin, SX.evInt, SX.evStr, SX.evEq, SX.arith, SX.evLoad, SX.shapeUp, SX.evFieldAddr, SX.evField, SX.evIndexAddr, SX.evIndex, SX.evFill, SX.evBuild, SX.szs, SX.cellsV, SX.evNew, SX.evStore, SX.spliceL, SX.SV.cells, SX.evConv, SX.evSlice, SX.bnd, SX.evNil, SX.evUn, SX.evPick, SX.pickOpd, SX.popTo, SX.cnd, SX.env0, SX.TD.isAgg, SX.TD.isIface, SX.tails, SX.NotAgg, SX.evLookup, SX.evConvH, SX.evPtrEq, SX.isCells, SX.thaw, SX.frz, SX.fixB, SX.rootIx, SX.Froz, SX.frzStep, SX.fork, Go.Value.cells, Go.undef, cfg21, hwr]
  refine ⟨by (unfold SX.Ob; first | trivial | omega | ((try simp only [SX.inK]); (try simp [SX.den, SX.IsU8, SX.AllP, *]); (try omega))), ?_⟩
  intro a9 w9 hr9' _
  have hr9 := h8.unbase hr9'
  have hyb : yB ≠ b := by have := hP8.lt; omega
  have hrb : yB + 1 ≠ b := by have := hP8.lt; omega
  have hP9 := hP8.keep hr9'.keeps (loc_mB (H := [(A1, true, .cells (actC x x.by_) 37)]) h8.all rfl (by simp; omega))
  obtain ⟨rB, hrB⟩ : ∃ rB, yB + 1 = rB := ⟨_, rfl⟩
  rw [hrB] at hr9 hrb
  have hA9 := hr9.all
  have zr : rB < w9.heap.size := SO.rep_lt hA9.2.2.1.1
  have zy : yB < w9.heap.size := SO.rep_lt hA9.2.1.1
  have zA : A1 < w9.heap.size := SO.rep_lt hA9.1.1
  have hyA : A1 ≠ yB := hA9.1.2.2 _ (List.mem_cons_self ..)
  have hrA : A1 ≠ rB := hA9.1.2.2 _ (List.mem_cons_of_mem _ (List.mem_cons_self ..))
  have hry : yB ≠ rB := by omega
  refine post_call 27 [.ptr 2 rB 0, .ptr 1 yB 0] hr9 (by first | exact wanted_none rfl | exact wanted_zero (hr9.env.same rfl rfl rfl rfl) rfl (by simp) | exact wanted_zero (hr9.env.same rfl rfl rfl rfl) rfl (by simp [*])) rfl (callable 27 Tryd.func27) (fields0_ok w9 rB yB _ _ _ _ _ _ _ hA9.2.2.1.1) ?_
  rintro e10 w10 ⟨⟨vf, rfl, hF⟩, hb10⟩
  refine ⟨_, rfl, ?_⟩
  have h10 := hr9.ret hb10 28 (.v vf) rfl _ (hr9.all.below hb10) (by simp) rfl
  have hP10 := hP9.below hb10
  obtain ⟨fad, fcp, rfl⟩ := hF.slice
  obtain ⟨fn, hfn⟩ : ∃ fn, (flds x.d).length = fn := ⟨_, rfl⟩
  have hfn5 : fn ≤ 5 := by
    rw [← hfn]
    unfold flds
    repeat' split
    all_goals simp
  have h10' := h10.top 28 (.v (.slice fad fn fcp)) rfl (by rw [hfn])
  rw [hfn] at hF
  have hF10 : RdS (pRow rB 0 yB) 1 0 (fun y => y ∉ mB B b w10 ∧ w9.heap.size ≤ y) w10 (.slice fad fn fcp) (flds x.d) := hF.mono fun y hy hp => ⟨fun hm => (mem_mB.1 hm).2.elim (fun h => by have := hP9.lt; omega) (fun h => by rw [hp.2] at h; cases h.2), hp.1⟩
  refine seg cfg21_ok mixed PanicFree.body 1000 [] [] h10'.rebase (by first | trivial | exact HpRep.nil | assumption) (by kernel_rfl) fun s_ hs_ => ?_
  simp (maxSteps := 10000000) [SX.vc, SX.stop, SX.contS, SX.contB, SX.contW, SX.contR, SX.contD, SX.sxStep, SX.stepPure, SX.stepNew, SX.stepStore, SX.stepKeep, SX.guardIx, SX.evOp, SX.opd, SX.opds, SX.optOpd, SX.look, SX.putS, SX.gobs, SX.AllP, SX.leave, SX.lookC, SX.lookB, SX.lookT, SX.lookN, SX.findK, SX.evBuiltin, SX.ints, SX.foldI, SX.evBin, SX.evInt, SX.evStr, SX.evEq, SX.arith, SX.evLoad, SX.shapeUp, SX.evFieldAddr, SX.evField, SX.evIndexAddr, SX.evIndex, SX.evFill, SX.evBuild, SX.szs, SX.cellsV, SX.evNew, SX.evStore, SX.spliceL, SX.SV.cells, SX.evConv, SX.evSlice, SX.bnd, SX.evNil, SX.evUn, SX.evPick, SX.pickOpd, SX.popTo, SX.cnd, SX.env0, SX.TD.isAgg, SX.TD.isIface, SX.tails, SX.NotAgg, SX.evLookup, SX.evConvH, SX.evPtrEq, SX.isCells, SX.thaw, SX.frz, SX.fixB, SX.rootIx, SX.Froz, SX.frzStep, SX.fork, Go.Value.cells, Go.undef, cfg21]
  refine ⟨by (unfold SX.Ob; first | trivial | omega | ((try simp only [SX.inK]); (try simp [SX.den, SX.IsU8, SX.AllP, *]); (try omega))), ?_⟩
  intro a11 w11 hr11' _
  have hr11 := h10'.unbase hr11'
  have hne3 : ∀ e ∈ [(A1, true, SO.cells (actC x x.by_) 37), (yB, true, .cells [.v (.int .i64 x.by_)] 3), (rB, true, .cells (actC x x.by_) 37)], e.1 ≠ b := by simp; omega
  have hP11 := hP10.keep hr11'.keeps (loc_mB h10'.all rfl hne3)
  have hF11 := rd_mB hF10 hr11'.keeps (by simp [frameAt, mutB]; omega)
  obtain ⟨s1, hs1⟩ : ∃ s1 : Pr, s1 = ⟨bs ++ 32 :: wd, bd⟩ := ⟨_, rfl⟩
  have hs1l : s1.bs.length ≤ 100000000006 := by rw [hs1]; simp; omega
  refine post_loop (ActL ⟨w, w.heap.size, mB B b w⟩ B b A1 yB rB (fun y => w9.heap.size ≤ y) s1 x fn (.slice fad fn fcp)) _ ⟨0, s1, x, rfl, by omega, rfl, by omega, rfl, by rw [hs1]; exact hP11, hF11, hr11.re (by simp [envTo, SX.look, den]) ⟨⟨hr11.all.1.1, hr11.all.1.2.1, by simp; omega⟩, ⟨hr11.all.2.1.1, hr11.all.2.1.2.1, by simp; omega⟩, ⟨hr11.all.2.2.1.1, hr11.all.2.2.1.2.1, by simp⟩, trivial⟩ rfl rfl⟩ ?_
  clear hr11 hr11' h10 h10' hF hF10 hF11 hP11 hP10 hr9 hr9' h8 hr7 hr7' hr7s h6 hr5 hA9 hne3
  rintro m a12 w12 ⟨k, s, ac, rfl, hk, hnums, hsl, hacd, hP12, hF12, hr12⟩
  have hA12 := hr12.all
  have hk12 : KeepsTo w (mB B b w) w12 := hr12.keeps
  by_cases hlt : k < fn
  · obtain ⟨fb, fo, fc, fu, ffz, hfP, hfv, hfrep⟩ := hF12.opn (show k < (flds x.d).length by omega)
    rw [hfn] at hfv hfrep
    cases hfv
    obtain ⟨kk, hkk⟩ : ∃ kk, nth (0 : Nat) (flds x.d) k = kk := ⟨_, rfl⟩
    have hkm : kk ∈ flds x.d := by rw [← hkk]; exact nth_mem (by omega)
    rw [drop_nth (d := (0 : Nat)) (show k < (flds x.d).length by omega), hkk] at hnums
    have hfrep' := rep_arr_sub (row' := fun j => ptrR 2 1 rB yB (nth 0 (flds x.d) j)) hfrep (Nat.le_refl _) fun j _ => ptrR_den 2 1 rB yB _
    have hfP2 : w9.heap.size ≤ fb := hfP.2
    have h13 := (hr12.top 28 (.sl 3 fb fo 0 fn fcp 1) rfl (by simp [den])).see [(A1, true, .cells (actC x x.by_) 37), (yB, true, .cells [.v (.int .i64 ac.by_)] 3), (rB, true, .cells (actC ac x.by_) 37), (fb, false, .arr fo fn (fun j => ptrR 2 1 rB yB (nth 0 (flds x.d) j)) 1 fu ffz)] ⟨⟨hA12.1.1, hA12.1.2.1, by simp; omega⟩, ⟨hA12.2.1.1, hA12.2.1.2.1, by simp; omega⟩, ⟨hA12.2.2.1.1, hA12.2.2.1.2.1, by simp; omega⟩, ⟨hfrep', by simp, by simp⟩, trivial⟩
    have hlk : (k : Int) < (fn : Int) := by omega
    have hloc : ∀ x_ ∈ mutB [(A1, true, SO.cells (actC x x.by_) 37), (yB, true, .cells [.v (.int .i64 ac.by_)] 3), (rB, true, .cells (actC ac x.by_) 37), (fb, false, .arr fo fn (fun j => ptrR 2 1 rB yB (nth 0 (flds x.d) j)) 1 fu ffz)], x_ ∉ mB B b w12 := by
      have := loc_mB (B := B) (b := b) hr12.all rfl (by simp; omega)
      simpa [mutB] using this
    clear hfrep
    rcases flds_mem hkm with rfl | rfl | rfl | rfl | rfl | rfl
    · refine seg cfg21_ok mixed PanicFree.body 1000 [true] [] h13.rebase (by first | trivial | exact HpRep.nil | assumption) (by kernel_rfl) fun s_ hs_ => ?_
      simp (maxSteps := 10000000) [SX.vc, SX.stop, SX.contS, SX.contB, SX.contW, SX.contR, SX.contD, SX.sxStep, SX.stepPure, SX.stepNew, SX.stepStore, SX.stepKeep, SX.guardIx, SX.evOp, SX.opd, SX.opds, SX.optOpd, SX.look, SX.putS, SX.gobs, SX.AllP, SX.leave, SX.lookC, SX.lookB, SX.lookT, SX.lookN, SX.findK, SX.evBuiltin, SX.ints, SX.foldI, SX.evBin, SX.evInt, SX.evStr, SX.evEq, SX.arith, SX.evLoad, SX.shapeUp, SX.evFieldAddr, SX.evField, SX.evIndexAddr, SX.evIndex, SX.evFill, SX.evBuild, SX.szs, SX.cellsV, SX.evNew, SX.evStore, SX.spliceL, SX.SV.cells, SX.evConv, SX.evSlice, SX.bnd, SX.evNil, SX.evUn, SX.evPick, SX.pickOpd, SX.popTo, SX.cnd, SX.env0, SX.TD.isAgg, SX.TD.isIface, SX.tails, SX.NotAgg, SX.evLookup, SX.evConvH, SX.evPtrEq, SX.isCells, SX.thaw, SX.frz, SX.fixB, SX.rootIx, SX.Froz, SX.frzStep, SX.fork, Go.Value.cells, Go.undef, cfg21, ptrR, hkk, hlk, hlt]
      refine ⟨by (unfold SX.Ob; first | trivial | omega | ((try simp only [SX.inK]); (try simp [SX.den, SX.IsU8, SX.AllP, *]); (try omega))), ?_⟩
      intro a14 w14 hr14' _
      have hr14 := h13.unbase hr14'
      have hP14 := hP12.keep hr14'.keeps hloc
      have hF14 := rd_mB hF12 hr14'.keeps (by simp [frameAt, mutB]; omega)
      have hall := hr14.all
      have hk14 : KeepsTo w (mB B b w) w14 := hr14.keeps
      refine post_call 20 [.v (.pointer (some ⟨b, 0, none⟩)), .v (.int .i64 ac.host)] hr14 (wanted_none rfl) rfl (callable 20 Tryd.func20) (numberP_ok w14 B b s.bs s.bad ac.host hP14 (by omega)) ?_
      rintro e15 w15 ⟨rfl, hP15, hk15⟩
      refine ⟨_, rfl, ?_⟩
      have hl14 := loc_all (B := B) (b := b) (H := [(A1, true, SO.cells (actC x x.by_) 37), (yB, true, .cells [.v (.int .i64 ac.by_)] 3), (rB, true, .cells (actC ac x.by_) 37)]) ⟨⟨hall.1.1, hall.1.2.1, by simp; omega⟩, ⟨hall.2.1.1, hall.2.1.2.1, by simp; omega⟩, ⟨hall.2.2.1.1, hall.2.2.1.2.1, by simp⟩, trivial⟩ rfl (by simp; omega)
      have h15 := hr14.retK hk15 (mB_step hk14) 38 (.tu []) rfl [(A1, true, .cells (actC x x.by_) 37), (yB, true, .cells [.v (.int .i64 ac.by_)] 3), (rB, true, .cells (actC ac x.by_) 37)] (HpAll.to hk15 ⟨⟨hall.1.1, hall.1.2.1, by simp; omega⟩, ⟨hall.2.1.1, hall.2.1.2.1, by simp; omega⟩, ⟨hall.2.2.1.1, hall.2.2.1.2.1, by simp⟩, trivial⟩ hl14) (by simp) rfl
      have hF15 := rd_mB hF14 hk15 (fun x_ hx_ => .inl hx_)
      refine seg cfg21_ok mixed PanicFree.body 1000 [] [] h15.rebase (by first | trivial | exact HpRep.nil | assumption) (by kernel_rfl) fun s_ hs_ => ?_
      simp (maxSteps := 10000000) [SX.vc, SX.stop, SX.contS, SX.contB, SX.contW, SX.contR, SX.contD, SX.sxStep, SX.stepPure, SX.stepNew, SX.stepStore, SX.stepKeep, SX.guardIx, SX.evOp, SX.opd, SX.opds, SX.optOpd, SX.look, SX.putS, SX.gobs, SX.AllP, SX.leave, SX.lookC, SX.lookB, SX.lookT, SX.lookN, SX.findK, SX.evBuiltin, SX.ints, SX.foldI, SX.evBin, SX.evInt, SX.evStr, SX.evEq, SX.arith, SX.evLoad, SX.shapeUp, SX.evFieldAddr, SX.evField, SX.evIndexAddr, SX.evIndex, SX.evFill, SX.evBuild, SX.szs, SX.cellsV, SX.evNew, SX.evStore, SX.spliceL, SX.SV.cells, SX.evConv, SX.evSlice, SX.bnd, SX.evNil, SX.evUn, SX.evPick, SX.pickOpd, SX.popTo, SX.cnd, SX.env0, SX.TD.isAgg, SX.TD.isIface, SX.tails, SX.NotAgg, SX.evLookup, SX.evConvH, SX.evPtrEq, SX.isCells, SX.thaw, SX.frz, SX.fixB, SX.rootIx, SX.Froz, SX.frzStep, SX.fork, Go.Value.cells, Go.undef, cfg21]
      refine ⟨by (unfold SX.Ob; first | trivial | omega | ((try simp only [SX.inK]); (try simp [SX.den, SX.IsU8, SX.AllP, *]); (try omega))), ?_⟩
      intro a16 w16 hr16' _
      have hr16 := h15.unbase hr16'
      have hP16 := hP15.keep hr16'.keeps (loc_mB h15.all rfl (by simp; omega))
      have hF16 := rd_mB hF15 hr16'.keeps (by simp [frameAt, mutB]; omega)
      have hA16 := hr16.all
      have hnl := numP_len s ac.host
      exact post_rnd (fn - (k + 1)) (by omega) ⟨k + 1, numP s ac.host, ac.set 1 0, by omega, by omega, hnums, by omega, hacd, hP16, hF16, hr16.re (by simp [envTo, SX.look, den]) ⟨⟨hA16.1.1, hA16.1.2.1, by simp; omega⟩, ⟨hA16.2.1.1, hA16.2.1.2.1, by simp; omega⟩, ⟨hA16.2.2.1.1, hA16.2.2.1.2.1, by simp⟩, trivial⟩ rfl rfl⟩
    · refine seg cfg21_ok mixed PanicFree.body 1000 [true] [] h13.rebase (by first | trivial | exact HpRep.nil | assumption) (by kernel_rfl) fun s_ hs_ => ?_
      simp (maxSteps := 10000000) [SX.vc, SX.stop, SX.contS, SX.contB, SX.contW, SX.contR, SX.contD, SX.sxStep, SX.stepPure, SX.stepNew, SX.stepStore, SX.stepKeep, SX.guardIx, SX.evOp, SX.opd, SX.opds, SX.optOpd, SX.look, SX.putS, SX.gobs, SX.AllP, SX.leave, SX.lookC, SX.lookB, SX.lookT, SX.lookN, SX.findK, SX.evBuiltin, SX.ints, SX.foldI, SX.evBin, SX.evInt, SX.evStr, SX.evEq, SX.arith, SX.evLoad, SX.shapeUp, SX.evFieldAddr, SX.evField, SX.evIndexAddr, SX.evIndex, SX.evFill, SX.evBuild, SX.szs, SX.cellsV, SX.evNew, SX.evStore, SX.spliceL, SX.SV.cells, SX.evConv, SX.evSlice, SX.bnd, SX.evNil, SX.evUn, SX.evPick, SX.pickOpd, SX.popTo, SX.cnd, SX.env0, SX.TD.isAgg, SX.TD.isIface, SX.tails, SX.NotAgg, SX.evLookup, SX.evConvH, SX.evPtrEq, SX.isCells, SX.thaw, SX.frz, SX.fixB, SX.rootIx, SX.Froz, SX.frzStep, SX.fork, Go.Value.cells, Go.undef, cfg21, ptrR, hkk, hlk, hlt]
      refine ⟨by (unfold SX.Ob; first | trivial | omega | ((try simp only [SX.inK]); (try simp [SX.den, SX.IsU8, SX.AllP, *]); (try omega))), ?_⟩
      intro a14 w14 hr14' _
      have hr14 := h13.unbase hr14'
      have hP14 := hP12.keep hr14'.keeps hloc
      have hF14 := rd_mB hF12 hr14'.keeps (by simp [frameAt, mutB]; omega)
      have hall := hr14.all
      have hk14 : KeepsTo w (mB B b w) w14 := hr14.keeps
      refine post_call 20 [.v (.pointer (some ⟨b, 0, none⟩)), .v (.int .i64 ac.zone)] hr14 (wanted_none rfl) rfl (callable 20 Tryd.func20) (numberP_ok w14 B b s.bs s.bad ac.zone hP14 (by omega)) ?_
      rintro e15 w15 ⟨rfl, hP15, hk15⟩
      refine ⟨_, rfl, ?_⟩
      have hl14 := loc_all (B := B) (b := b) (H := [(A1, true, SO.cells (actC x x.by_) 37), (yB, true, .cells [.v (.int .i64 ac.by_)] 3), (rB, true, .cells (actC ac x.by_) 37)]) ⟨⟨hall.1.1, hall.1.2.1, by simp; omega⟩, ⟨hall.2.1.1, hall.2.1.2.1, by simp; omega⟩, ⟨hall.2.2.1.1, hall.2.2.1.2.1, by simp⟩, trivial⟩ rfl (by simp; omega)
      have h15 := hr14.retK hk15 (mB_step hk14) 38 (.tu []) rfl [(A1, true, .cells (actC x x.by_) 37), (yB, true, .cells [.v (.int .i64 ac.by_)] 3), (rB, true, .cells (actC ac x.by_) 37)] (HpAll.to hk15 ⟨⟨hall.1.1, hall.1.2.1, by simp; omega⟩, ⟨hall.2.1.1, hall.2.1.2.1, by simp; omega⟩, ⟨hall.2.2.1.1, hall.2.2.1.2.1, by simp⟩, trivial⟩ hl14) (by simp) rfl
      have hF15 := rd_mB hF14 hk15 (fun x_ hx_ => .inl hx_)
      refine seg cfg21_ok mixed PanicFree.body 1000 [] [] h15.rebase (by first | trivial | exact HpRep.nil | assumption) (by kernel_rfl) fun s_ hs_ => ?_
      simp (maxSteps := 10000000) [SX.vc, SX.stop, SX.contS, SX.contB, SX.contW, SX.contR, SX.contD, SX.sxStep, SX.stepPure, SX.stepNew, SX.stepStore, SX.stepKeep, SX.guardIx, SX.evOp, SX.opd, SX.opds, SX.optOpd, SX.look, SX.putS, SX.gobs, SX.AllP, SX.leave, SX.lookC, SX.lookB, SX.lookT, SX.lookN, SX.findK, SX.evBuiltin, SX.ints, SX.foldI, SX.evBin, SX.evInt, SX.evStr, SX.evEq, SX.arith, SX.evLoad, SX.shapeUp, SX.evFieldAddr, SX.evField, SX.evIndexAddr, SX.evIndex, SX.evFill, SX.evBuild, SX.szs, SX.cellsV, SX.evNew, SX.evStore, SX.spliceL, SX.SV.cells, SX.evConv, SX.evSlice, SX.bnd, SX.evNil, SX.evUn, SX.evPick, SX.pickOpd, SX.popTo, SX.cnd, SX.env0, SX.TD.isAgg, SX.TD.isIface, SX.tails, SX.NotAgg, SX.evLookup, SX.evConvH, SX.evPtrEq, SX.isCells, SX.thaw, SX.frz, SX.fixB, SX.rootIx, SX.Froz, SX.frzStep, SX.fork, Go.Value.cells, Go.undef, cfg21]
      refine ⟨by (unfold SX.Ob; first | trivial | omega | ((try simp only [SX.inK]); (try simp [SX.den, SX.IsU8, SX.AllP, *]); (try omega))), ?_⟩
      intro a16 w16 hr16' _
      have hr16 := h15.unbase hr16'
      have hP16 := hP15.keep hr16'.keeps (loc_mB h15.all rfl (by simp; omega))
      have hF16 := rd_mB hF15 hr16'.keeps (by simp [frameAt, mutB]; omega)
      have hA16 := hr16.all
      have hnl := numP_len s ac.zone
      exact post_rnd (fn - (k + 1)) (by omega) ⟨k + 1, numP s ac.zone, ac.set 2 0, by omega, by omega, hnums, by omega, hacd, hP16, hF16, hr16.re (by simp [envTo, SX.look, den]) ⟨⟨hA16.1.1, hA16.1.2.1, by simp; omega⟩, ⟨hA16.2.1.1, hA16.2.1.2.1, by simp; omega⟩, ⟨hA16.2.2.1.1, hA16.2.2.1.2.1, by simp⟩, trivial⟩ rfl rfl⟩
    · refine seg cfg21_ok mixed PanicFree.body 1000 [true] [] h13.rebase (by first | trivial | exact HpRep.nil | assumption) (by kernel_rfl) fun s_ hs_ => ?_
      simp (maxSteps := 10000000) [SX.vc, SX.stop, SX.contS, SX.contB, SX.contW, SX.contR, SX.contD, SX.sxStep, SX.stepPure, SX.stepNew, SX.stepStore, SX.stepKeep, SX.guardIx, SX.evOp, SX.opd, SX.opds, SX.optOpd, SX.look, SX.putS, SX.gobs, SX.AllP, SX.leave, SX.lookC, SX.lookB, SX.lookT, SX.lookN, SX.findK, SX.evBuiltin, SX.ints, SX.foldI, SX.evBin, SX.evInt, SX.evStr, SX.evEq, SX.arith, SX.evLoad, SX.shapeUp, SX.evFieldAddr, SX.evField, SX.evIndexAddr, SX.evIndex, SX.evFill, SX.evBuild, SX.szs, SX.cellsV, SX.evNew, SX.evStore, SX.spliceL, SX.SV.cells, SX.evConv, SX.evSlice, SX.bnd, SX.evNil, SX.evUn, SX.evPick, SX.pickOpd, SX.popTo, SX.cnd, SX.env0, SX.TD.isAgg, SX.TD.isIface, SX.tails, SX.NotAgg, SX.evLookup, SX.evConvH, SX.evPtrEq, SX.isCells, SX.thaw, SX.frz, SX.fixB, SX.rootIx, SX.Froz, SX.frzStep, SX.fork, Go.Value.cells, Go.undef, cfg21, ptrR, hkk, hlk, hlt]
      refine ⟨by (unfold SX.Ob; first | trivial | omega | ((try simp only [SX.inK]); (try simp [SX.den, SX.IsU8, SX.AllP, *]); (try omega))), ?_⟩
      intro a14 w14 hr14' _
      have hr14 := h13.unbase hr14'
      have hP14 := hP12.keep hr14'.keeps hloc
      have hF14 := rd_mB hF12 hr14'.keeps (by simp [frameAt, mutB]; omega)
      have hall := hr14.all
      have hk14 : KeepsTo w (mB B b w) w14 := hr14.keeps
      refine post_call 20 [.v (.pointer (some ⟨b, 0, none⟩)), .v (.int .i64 ac.lba)] hr14 (wanted_none rfl) rfl (callable 20 Tryd.func20) (numberP_ok w14 B b s.bs s.bad ac.lba hP14 (by omega)) ?_
      rintro e15 w15 ⟨rfl, hP15, hk15⟩
      refine ⟨_, rfl, ?_⟩
      have hl14 := loc_all (B := B) (b := b) (H := [(A1, true, SO.cells (actC x x.by_) 37), (yB, true, .cells [.v (.int .i64 ac.by_)] 3), (rB, true, .cells (actC ac x.by_) 37)]) ⟨⟨hall.1.1, hall.1.2.1, by simp; omega⟩, ⟨hall.2.1.1, hall.2.1.2.1, by simp; omega⟩, ⟨hall.2.2.1.1, hall.2.2.1.2.1, by simp⟩, trivial⟩ rfl (by simp; omega)
      have h15 := hr14.retK hk15 (mB_step hk14) 38 (.tu []) rfl [(A1, true, .cells (actC x x.by_) 37), (yB, true, .cells [.v (.int .i64 ac.by_)] 3), (rB, true, .cells (actC ac x.by_) 37)] (HpAll.to hk15 ⟨⟨hall.1.1, hall.1.2.1, by simp; omega⟩, ⟨hall.2.1.1, hall.2.1.2.1, by simp; omega⟩, ⟨hall.2.2.1.1, hall.2.2.1.2.1, by simp⟩, trivial⟩ hl14) (by simp) rfl
      have hF15 := rd_mB hF14 hk15 (fun x_ hx_ => .inl hx_)
      refine seg cfg21_ok mixed PanicFree.body 1000 [] [] h15.rebase (by first | trivial | exact HpRep.nil | assumption) (by kernel_rfl) fun s_ hs_ => ?_
      simp (maxSteps := 10000000) [SX.vc, SX.stop, SX.contS, SX.contB, SX.contW, SX.contR, SX.contD, SX.sxStep, SX.stepPure, SX.stepNew, SX.stepStore, SX.stepKeep, SX.guardIx, SX.evOp, SX.opd, SX.opds, SX.optOpd, SX.look, SX.putS, SX.gobs, SX.AllP, SX.leave, SX.lookC, SX.lookB, SX.lookT, SX.lookN, SX.findK, SX.evBuiltin, SX.ints, SX.foldI, SX.evBin, SX.evInt, SX.evStr, SX.evEq, SX.arith, SX.evLoad, SX.shapeUp, SX.evFieldAddr, SX.evField, SX.evIndexAddr, SX.evIndex, SX.evFill, SX.evBuild, SX.szs, SX.cellsV, SX.evNew, SX.evStore, SX.spliceL, SX.SV.cells, SX.evConv, SX.evSlice, SX.bnd, SX.evNil, SX.evUn, SX.evPick, SX.pickOpd, SX.popTo, SX.cnd, SX.env0, SX.TD.isAgg, SX.TD.isIface, SX.tails, SX.NotAgg, SX.evLookup, SX.evConvH, SX.evPtrEq, SX.isCells, SX.thaw, SX.frz, SX.fixB, SX.rootIx, SX.Froz, SX.frzStep, SX.fork, Go.Value.cells, Go.undef, cfg21]
      refine ⟨by (unfold SX.Ob; first | trivial | omega | ((try simp only [SX.inK]); (try simp [SX.den, SX.IsU8, SX.AllP, *]); (try omega))), ?_⟩
      intro a16 w16 hr16' _
      have hr16 := h15.unbase hr16'
      have hP16 := hP15.keep hr16'.keeps (loc_mB h15.all rfl (by simp; omega))
      have hF16 := rd_mB hF15 hr16'.keeps (by simp [frameAt, mutB]; omega)
      have hA16 := hr16.all
      have hnl := numP_len s ac.lba
      exact post_rnd (fn - (k + 1)) (by omega) ⟨k + 1, numP s ac.lba, ac.set 3 0, by omega, by omega, hnums, by omega, hacd, hP16, hF16, hr16.re (by simp [envTo, SX.look, den]) ⟨⟨hA16.1.1, hA16.1.2.1, by simp; omega⟩, ⟨hA16.2.1.1, hA16.2.1.2.1, by simp; omega⟩, ⟨hA16.2.2.1.1, hA16.2.2.1.2.1, by simp⟩, trivial⟩ rfl rfl⟩
    · refine seg cfg21_ok mixed PanicFree.body 1000 [true] [] h13.rebase (by first | trivial | exact HpRep.nil | assumption) (by kernel_rfl) fun s_ hs_ => ?_
      simp (maxSteps := 10000000) [SX.vc, SX.stop, SX.contS, SX.contB, SX.contW, SX.contR, SX.contD, SX.sxStep, SX.stepPure, SX.stepNew, SX.stepStore, SX.stepKeep, SX.guardIx, SX.evOp, SX.opd, SX.opds, SX.optOpd, SX.look, SX.putS, SX.gobs, SX.AllP, SX.leave, SX.lookC, SX.lookB, SX.lookT, SX.lookN, SX.findK, SX.evBuiltin, SX.ints, SX.foldI, SX.evBin, SX.evInt, SX.evStr, SX.evEq, SX.arith, SX.evLoad, SX.shapeUp, SX.evFieldAddr, SX.evField, SX.evIndexAddr, SX.evIndex, SX.evFill, SX.evBuild, SX.szs, SX.cellsV, SX.evNew, SX.evStore, SX.spliceL, SX.SV.cells, SX.evConv, SX.evSlice, SX.bnd, SX.evNil, SX.evUn, SX.evPick, SX.pickOpd, SX.popTo, SX.cnd, SX.env0, SX.TD.isAgg, SX.TD.isIface, SX.tails, SX.NotAgg, SX.evLookup, SX.evConvH, SX.evPtrEq, SX.isCells, SX.thaw, SX.frz, SX.fixB, SX.rootIx, SX.Froz, SX.frzStep, SX.fork, Go.Value.cells, Go.undef, cfg21, ptrR, hkk, hlk, hlt]
      refine ⟨by (unfold SX.Ob; first | trivial | omega | ((try simp only [SX.inK]); (try simp [SX.den, SX.IsU8, SX.AllP, *]); (try omega))), ?_⟩
      intro a14 w14 hr14' _
      have hr14 := h13.unbase hr14'
      have hP14 := hP12.keep hr14'.keeps hloc
      have hF14 := rd_mB hF12 hr14'.keeps (by simp [frameAt, mutB]; omega)
      have hall := hr14.all
      have hk14 : KeepsTo w (mB B b w) w14 := hr14.keeps
      refine post_call 20 [.v (.pointer (some ⟨b, 0, none⟩)), .v (.int .i64 ac.n)] hr14 (wanted_none rfl) rfl (callable 20 Tryd.func20) (numberP_ok w14 B b s.bs s.bad ac.n hP14 (by omega)) ?_
      rintro e15 w15 ⟨rfl, hP15, hk15⟩
      refine ⟨_, rfl, ?_⟩
      have hl14 := loc_all (B := B) (b := b) (H := [(A1, true, SO.cells (actC x x.by_) 37), (yB, true, .cells [.v (.int .i64 ac.by_)] 3), (rB, true, .cells (actC ac x.by_) 37)]) ⟨⟨hall.1.1, hall.1.2.1, by simp; omega⟩, ⟨hall.2.1.1, hall.2.1.2.1, by simp; omega⟩, ⟨hall.2.2.1.1, hall.2.2.1.2.1, by simp⟩, trivial⟩ rfl (by simp; omega)
      have h15 := hr14.retK hk15 (mB_step hk14) 38 (.tu []) rfl [(A1, true, .cells (actC x x.by_) 37), (yB, true, .cells [.v (.int .i64 ac.by_)] 3), (rB, true, .cells (actC ac x.by_) 37)] (HpAll.to hk15 ⟨⟨hall.1.1, hall.1.2.1, by simp; omega⟩, ⟨hall.2.1.1, hall.2.1.2.1, by simp; omega⟩, ⟨hall.2.2.1.1, hall.2.2.1.2.1, by simp⟩, trivial⟩ hl14) (by simp) rfl
      have hF15 := rd_mB hF14 hk15 (fun x_ hx_ => .inl hx_)
      refine seg cfg21_ok mixed PanicFree.body 1000 [] [] h15.rebase (by first | trivial | exact HpRep.nil | assumption) (by kernel_rfl) fun s_ hs_ => ?_
      simp (maxSteps := 10000000) [SX.vc, SX.stop, SX.contS, SX.contB, SX.contW, SX.contR, SX.contD, SX.sxStep, SX.stepPure, SX.stepNew, SX.stepStore, SX.stepKeep, SX.guardIx, SX.evOp, SX.opd, SX.opds, SX.optOpd, SX.look, SX.putS, SX.gobs, SX.AllP, SX.leave, SX.lookC, SX.lookB, SX.lookT, SX.lookN, SX.findK, SX.evBuiltin, SX.ints, SX.foldI, SX.evBin, SX.evInt, SX.evStr, SX.evEq, SX.arith, SX.evLoad, SX.shapeUp, SX.evFieldAddr, SX.evField, SX.evIndexAddr, SX.evIndex, SX.evFill, SX.evBuild, SX.szs, SX.cellsV, SX.evNew, SX.evStore, SX.spliceL, SX.SV.cells, SX.evConv, SX.evSlice, SX.bnd, SX.evNil, SX.evUn, SX.evPick, SX.pickOpd, SX.popTo, SX.cnd, SX.env0, SX.TD.isAgg, SX.TD.isIface, SX.tails, SX.NotAgg, SX.evLookup, SX.evConvH, SX.evPtrEq, SX.isCells, SX.thaw, SX.frz, SX.fixB, SX.rootIx, SX.Froz, SX.frzStep, SX.fork, Go.Value.cells, Go.undef, cfg21]
      refine ⟨by (unfold SX.Ob; first | trivial | omega | ((try simp only [SX.inK]); (try simp [SX.den, SX.IsU8, SX.AllP, *]); (try omega))), ?_⟩
      intro a16 w16 hr16' _
      have hr16 := h15.unbase hr16'
      have hP16 := hP15.keep hr16'.keeps (loc_mB h15.all rfl (by simp; omega))
      have hF16 := rd_mB hF15 hr16'.keeps (by simp [frameAt, mutB]; omega)
      have hA16 := hr16.all
      have hnl := numP_len s ac.n
      exact post_rnd (fn - (k + 1)) (by omega) ⟨k + 1, numP s ac.n, ac.set 4 0, by omega, by omega, hnums, by omega, hacd, hP16, hF16, hr16.re (by simp [envTo, SX.look, den]) ⟨⟨hA16.1.1, hA16.1.2.1, by simp; omega⟩, ⟨hA16.2.1.1, hA16.2.1.2.1, by simp; omega⟩, ⟨hA16.2.2.1.1, hA16.2.2.1.2.1, by simp⟩, trivial⟩ rfl rfl⟩
    · refine seg cfg21_ok mixed PanicFree.body 1000 [true] [] h13.rebase (by first | trivial | exact HpRep.nil | assumption) (by kernel_rfl) fun s_ hs_ => ?_
      simp (maxSteps := 10000000) [SX.vc, SX.stop, SX.contS, SX.contB, SX.contW, SX.contR, SX.contD, SX.sxStep, SX.stepPure, SX.stepNew, SX.stepStore, SX.stepKeep, SX.guardIx, SX.evOp, SX.opd, SX.opds, SX.optOpd, SX.look, SX.putS, SX.gobs, SX.AllP, SX.leave, SX.lookC, SX.lookB, SX.lookT, SX.lookN, SX.findK, SX.evBuiltin, SX.ints, SX.foldI, SX.evBin, SX.evInt, SX.evStr, SX.evEq, SX.arith, SX.evLoad, SX.shapeUp, SX.evFieldAddr, SX.evField, SX.evIndexAddr, SX.evIndex, SX.evFill, SX.evBuild, SX.szs, SX.cellsV, SX.evNew, SX.evStore, SX.spliceL, SX.SV.cells, SX.evConv, SX.evSlice, SX.bnd, SX.evNil, SX.evUn, SX.evPick, SX.pickOpd, SX.popTo, SX.cnd, SX.env0, SX.TD.isAgg, SX.TD.isIface, SX.tails, SX.NotAgg, SX.evLookup, SX.evConvH, SX.evPtrEq, SX.isCells, SX.thaw, SX.frz, SX.fixB, SX.rootIx, SX.Froz, SX.frzStep, SX.fork, Go.Value.cells, Go.undef, cfg21, ptrR, hkk, hlk, hlt]
      refine ⟨by (unfold SX.Ob; first | trivial | omega | ((try simp only [SX.inK]); (try simp [SX.den, SX.IsU8, SX.AllP, *]); (try omega))), ?_⟩
      intro a14 w14 hr14' _
      have hr14 := h13.unbase hr14'
      have hP14 := hP12.keep hr14'.keeps hloc
      have hF14 := rd_mB hF12 hr14'.keeps (by simp [frameAt, mutB]; omega)
      have hall := hr14.all
      have hk14 : KeepsTo w (mB B b w) w14 := hr14.keeps
      refine post_call 20 [.v (.pointer (some ⟨b, 0, none⟩)), .v (.int .i64 ac.by_)] hr14 (wanted_none rfl) rfl (callable 20 Tryd.func20) (numberP_ok w14 B b s.bs s.bad ac.by_ hP14 (by omega)) ?_
      rintro e15 w15 ⟨rfl, hP15, hk15⟩
      refine ⟨_, rfl, ?_⟩
      have hl14 := loc_all (B := B) (b := b) (H := [(A1, true, SO.cells (actC x x.by_) 37), (yB, true, .cells [.v (.int .i64 ac.by_)] 3), (rB, true, .cells (actC ac x.by_) 37)]) ⟨⟨hall.1.1, hall.1.2.1, by simp; omega⟩, ⟨hall.2.1.1, hall.2.1.2.1, by simp; omega⟩, ⟨hall.2.2.1.1, hall.2.2.1.2.1, by simp⟩, trivial⟩ rfl (by simp; omega)
      have h15 := hr14.retK hk15 (mB_step hk14) 38 (.tu []) rfl [(A1, true, .cells (actC x x.by_) 37), (yB, true, .cells [.v (.int .i64 ac.by_)] 3), (rB, true, .cells (actC ac x.by_) 37)] (HpAll.to hk15 ⟨⟨hall.1.1, hall.1.2.1, by simp; omega⟩, ⟨hall.2.1.1, hall.2.1.2.1, by simp; omega⟩, ⟨hall.2.2.1.1, hall.2.2.1.2.1, by simp⟩, trivial⟩ hl14) (by simp) rfl
      have hF15 := rd_mB hF14 hk15 (fun x_ hx_ => .inl hx_)
      refine seg cfg21_ok mixed PanicFree.body 1000 [] [] h15.rebase (by first | trivial | exact HpRep.nil | assumption) (by kernel_rfl) fun s_ hs_ => ?_
      simp (maxSteps := 10000000) [SX.vc, SX.stop, SX.contS, SX.contB, SX.contW, SX.contR, SX.contD, SX.sxStep, SX.stepPure, SX.stepNew, SX.stepStore, SX.stepKeep, SX.guardIx, SX.evOp, SX.opd, SX.opds, SX.optOpd, SX.look, SX.putS, SX.gobs, SX.AllP, SX.leave, SX.lookC, SX.lookB, SX.lookT, SX.lookN, SX.findK, SX.evBuiltin, SX.ints, SX.foldI, SX.evBin, SX.evInt, SX.evStr, SX.evEq, SX.arith, SX.evLoad, SX.shapeUp, SX.evFieldAddr, SX.evField, SX.evIndexAddr, SX.evIndex, SX.evFill, SX.evBuild, SX.szs, SX.cellsV, SX.evNew, SX.evStore, SX.spliceL, SX.SV.cells, SX.evConv, SX.evSlice, SX.bnd, SX.evNil, SX.evUn, SX.evPick, SX.pickOpd, SX.popTo, SX.cnd, SX.env0, SX.TD.isAgg, SX.TD.isIface, SX.tails, SX.NotAgg, SX.evLookup, SX.evConvH, SX.evPtrEq, SX.isCells, SX.thaw, SX.frz, SX.fixB, SX.rootIx, SX.Froz, SX.frzStep, SX.fork, Go.Value.cells, Go.undef, cfg21]
      refine ⟨by (unfold SX.Ob; first | trivial | omega | ((try simp only [SX.inK]); (try simp [SX.den, SX.IsU8, SX.AllP, *]); (try omega))), ?_⟩
      intro a16 w16 hr16' _
      have hr16 := h15.unbase hr16'
      have hP16 := hP15.keep hr16'.keeps (loc_mB h15.all rfl (by simp; omega))
      have hF16 := rd_mB hF15 hr16'.keeps (by simp [frameAt, mutB]; omega)
      have hA16 := hr16.all
      have hnl := numP_len s ac.by_
      exact post_rnd (fn - (k + 1)) (by omega) ⟨k + 1, numP s ac.by_, ac.set 5 0, by omega, by omega, hnums, by omega, hacd, hP16, hF16, hr16.re (by simp [envTo, SX.look, den]) ⟨⟨hA16.1.1, hA16.1.2.1, by simp; omega⟩, ⟨hA16.2.1.1, hA16.2.1.2.1, by simp; omega⟩, ⟨hA16.2.2.1.1, hA16.2.2.1.2.1, by simp⟩, trivial⟩ rfl rfl⟩
    · refine seg cfg21_ok mixed PanicFree.body 1000 [true] [] h13.rebase (by first | trivial | exact HpRep.nil | assumption) (by kernel_rfl) fun s_ hs_ => ?_
      simp (maxSteps := 10000000) [SX.vc, SX.stop, SX.contS, SX.contB, SX.contW, SX.contR, SX.contD, SX.sxStep, SX.stepPure, SX.stepNew, SX.stepStore, SX.stepKeep, SX.guardIx, SX.evOp, SX.opd, SX.opds, SX.optOpd, SX.look, SX.putS, SX.gobs, SX.AllP, SX.leave, SX.lookC, SX.lookB, SX.lookT, SX.lookN, SX.findK, SX.evBuiltin, SX.ints, SX.foldI, SX.evBin, SX.evInt, SX.evStr, SX.evEq, SX.arith, SX.evLoad, SX.shapeUp, SX.evFieldAddr, SX.evField, SX.evIndexAddr, SX.evIndex, SX.evFill, SX.evBuild, SX.szs, SX.cellsV, SX.evNew, SX.evStore, SX.spliceL, SX.SV.cells, SX.evConv, SX.evSlice, SX.bnd, SX.evNil, SX.evUn, SX.evPick, SX.pickOpd, SX.popTo, SX.cnd, SX.env0, SX.TD.isAgg, SX.TD.isIface, SX.tails, SX.NotAgg, SX.evLookup, SX.evConvH, SX.evPtrEq, SX.isCells, SX.thaw, SX.frz, SX.fixB, SX.rootIx, SX.Froz, SX.frzStep, SX.fork, Go.Value.cells, Go.undef, cfg21, ptrR, hkk, hlk, hlt]
      refine ⟨by (unfold SX.Ob; first | trivial | omega | ((try simp only [SX.inK]); (try simp [SX.den, SX.IsU8, SX.AllP, *]); (try omega))), ?_⟩
      intro a14 w14 hr14' _
      have hr14 := h13.unbase hr14'
      have hP14 := hP12.keep hr14'.keeps hloc
      have hF14 := rd_mB hF12 hr14'.keeps (by simp [frameAt, mutB]; omega)
      have hall := hr14.all
      have hk14 : KeepsTo w (mB B b w) w14 := hr14.keeps
      refine post_call 20 [.v (.pointer (some ⟨b, 0, none⟩)), .v (.int .i64 ac.keep)] hr14 (wanted_none rfl) rfl (callable 20 Tryd.func20) (numberP_ok w14 B b s.bs s.bad ac.keep hP14 (by omega)) ?_
      rintro e15 w15 ⟨rfl, hP15, hk15⟩
      refine ⟨_, rfl, ?_⟩
      have hl14 := loc_all (B := B) (b := b) (H := [(A1, true, SO.cells (actC x x.by_) 37), (yB, true, .cells [.v (.int .i64 ac.by_)] 3), (rB, true, .cells (actC ac x.by_) 37)]) ⟨⟨hall.1.1, hall.1.2.1, by simp; omega⟩, ⟨hall.2.1.1, hall.2.1.2.1, by simp; omega⟩, ⟨hall.2.2.1.1, hall.2.2.1.2.1, by simp⟩, trivial⟩ rfl (by simp; omega)
      have h15 := hr14.retK hk15 (mB_step hk14) 38 (.tu []) rfl [(A1, true, .cells (actC x x.by_) 37), (yB, true, .cells [.v (.int .i64 ac.by_)] 3), (rB, true, .cells (actC ac x.by_) 37)] (HpAll.to hk15 ⟨⟨hall.1.1, hall.1.2.1, by simp; omega⟩, ⟨hall.2.1.1, hall.2.1.2.1, by simp; omega⟩, ⟨hall.2.2.1.1, hall.2.2.1.2.1, by simp⟩, trivial⟩ hl14) (by simp) rfl
      have hF15 := rd_mB hF14 hk15 (fun x_ hx_ => .inl hx_)
      refine seg cfg21_ok mixed PanicFree.body 1000 [] [] h15.rebase (by first | trivial | exact HpRep.nil | assumption) (by kernel_rfl) fun s_ hs_ => ?_
      simp (maxSteps := 10000000) [SX.vc, SX.stop, SX.contS, SX.contB, SX.contW, SX.contR, SX.contD, SX.sxStep, SX.stepPure, SX.stepNew, SX.stepStore, SX.stepKeep, SX.guardIx, SX.evOp, SX.opd, SX.opds, SX.optOpd, SX.look, SX.putS, SX.gobs, SX.AllP, SX.leave, SX.lookC, SX.lookB, SX.lookT, SX.lookN, SX.findK, SX.evBuiltin, SX.ints, SX.foldI, SX.evBin, SX.evInt, SX.evStr, SX.evEq, SX.arith, SX.evLoad, SX.shapeUp, SX.evFieldAddr, SX.evField, SX.evIndexAddr, SX.evIndex, SX.evFill, SX.evBuild, SX.szs, SX.cellsV, SX.evNew, SX.evStore, SX.spliceL, SX.SV.cells, SX.evConv, SX.evSlice, SX.bnd, SX.evNil, SX.evUn, SX.evPick, SX.pickOpd, SX.popTo, SX.cnd, SX.env0, SX.TD.isAgg, SX.TD.isIface, SX.tails, SX.NotAgg, SX.evLookup, SX.evConvH, SX.evPtrEq, SX.isCells, SX.thaw, SX.frz, SX.fixB, SX.rootIx, SX.Froz, SX.frzStep, SX.fork, Go.Value.cells, Go.undef, cfg21]
      refine ⟨by (unfold SX.Ob; first | trivial | omega | ((try simp only [SX.inK]); (try simp [SX.den, SX.IsU8, SX.AllP, *]); (try omega))), ?_⟩
      intro a16 w16 hr16' _
      have hr16 := h15.unbase hr16'
      have hP16 := hP15.keep hr16'.keeps (loc_mB h15.all rfl (by simp; omega))
      have hF16 := rd_mB hF15 hr16'.keeps (by simp [frameAt, mutB]; omega)
      have hA16 := hr16.all
      have hnl := numP_len s ac.keep
      exact post_rnd (fn - (k + 1)) (by omega) ⟨k + 1, numP s ac.keep, ac.set 6 0, by omega, by omega, hnums, by omega, hacd, hP16, hF16, hr16.re (by simp [envTo, SX.look, den]) ⟨⟨hA16.1.1, hA16.1.2.1, by simp; omega⟩, ⟨hA16.2.1.1, hA16.2.1.2.1, by simp; omega⟩, ⟨hA16.2.2.1.1, hA16.2.2.1.2.1, by simp⟩, trivial⟩ rfl rfl⟩
  obtain rfl : k = fn := by omega
  have hkk : ¬ (k : Int) < (k : Int) := by omega
  rw [List.drop_of_length_le (by omega)] at hnums
  have hac : numsP (flds x.d) s1 x = (s, ac) := hnums
  have hby5 := numsP_by (flds x.d) s1 x fun q hq => flds_mem hq
  rw [hac] at hby5
  simp only at hby5
  have hfin : actP ⟨bs, bad⟩ x = ⟨s.bs, s.bad || decide (ac ≠ Ac.zero x.d)⟩ := by
    unfold actP
    simp only [hwd, hbw, hbd]
    rw [← hs1, hac]
  rw [hfin]
  have hne3 : ∀ e ∈ [(A1, true, SO.cells (actC x x.by_) 37), (yB, true, .cells [.v (.int .i64 ac.by_)] 3), (rB, true, .cells (actC ac x.by_) 37)], e.1 ≠ b := by simp; omega
  refine seg cfg21_ok mixed PanicFree.body 8 [false] [] hr12.rebase (by first | trivial | exact HpRep.nil | assumption) (by kernel_rfl) fun s_ hs_ => ?_
  simp (maxSteps := 10000000) [SX.vc, SX.stop, SX.contS, SX.contB, SX.contW, SX.contR, SX.contD, SX.sxStep, SX.stepPure, SX.stepNew, SX.stepStore, SX.stepKeep, SX.guardIx, SX.evOp, SX.opd, SX.opds, SX.optOpd, SX.look, SX.putS, SX.gobs, SX.AllP, SX.leave, SX.lookC, SX.lookB, SX.lookT, SX.lookN, SX.findK, SX.evBuiltin, SX.ints, SX.foldI, SX.evBin, SX.evInt, SX.evStr, SX.evEq, SX.arith, SX.evLoad, SX.shapeUp, SX.evFieldAddr, SX.evField, SX.evIndexAddr, SX.evIndex, SX.evFill, SX.evBuild, SX.szs, SX.cellsV, SX.evNew, SX.evStore, SX.spliceL, SX.SV.cells, SX.evConv, SX.evSlice, SX.bnd, SX.evNil, SX.evUn, SX.evPick, SX.pickOpd, SX.popTo, SX.cnd, SX.env0, SX.TD.isAgg, SX.TD.isIface, SX.tails, SX.NotAgg, SX.evLookup, SX.evConvH, SX.evPtrEq, SX.isCells, SX.thaw, SX.frz, SX.fixB, SX.rootIx, SX.Froz, SX.frzStep, SX.fork, Go.Value.cells, Go.undef, cfg21, hkk]
  refine ⟨by (unfold SX.Ob; first | trivial | omega | ((try simp only [SX.inK]); (try simp [SX.den, SX.IsU8, SX.AllP, *]); (try omega))), ?_⟩
  intro a13 w13 hr13' _
  have hr13 := hr12.unbase hr13'
  have hP13 := hP12.keep hr13'.keeps (loc_mB hr12.all rfl hne3)
  clear hF12 hr13' hr12
  refine post_cut (fun a' w' => PrA B b s.bs s.bad w' ∧ RepX ⟨w, w.heap.size, mB B b w⟩ ⟨[(6, 0, .ptr 1 rB 0), (3, 0, .ptr 0 A1 0), (0, 0, .v (.pointer (some ⟨b, 0, none⟩)))], [(A1, true, .cells (actC x x.by_) 37), (rB, true, .cells (actC ac ac.by_) 37)], 0, 0, 59, [], [], []⟩ a' w') 1 rfl ?_ fun a_ w_ hJ => ?_
  · by_cases h4 : x.d = 4
    · have hb0 : ac.by_ = 0 := by rw [hby5, if_pos ((flds5 x.d).2 (.inl h4))]
      refine seg cfg21_ok mixed PanicFree.body 1000 [true] [(45, true)] hr13.rebase (by first | trivial | exact HpRep.nil | assumption) (by kernel_rfl) fun s_ hs_ => ?_
      simp (maxSteps := 10000000) [SX.vc, SX.stop, SX.contS, SX.contB, SX.contW, SX.contR, SX.contD, SX.sxStep, SX.stepPure, SX.stepNew, SX.stepStore, SX.stepKeep, SX.guardIx, SX.evOp, SX.opd, SX.opds, SX.optOpd, SX.look, SX.putS, SX.gobs, SX.AllP, SX.leave, SX.lookC, SX.lookB, SX.lookT, SX.lookN, SX.findK, SX.evBuiltin, SX.ints, SX.foldI, SX.evBin, SX.evInt, SX.evStr, SX.evEq, SX.arith, SX.evLoad, SX.shapeUp, SX.evFieldAddr, SX.evField, SX.evIndexAddr, SX.evIndex, SX.evFill, SX.evBuild, SX.szs, SX.cellsV, SX.evNew, SX.evStore, SX.spliceL, SX.SV.cells, SX.evConv, SX.evSlice, SX.bnd, SX.evNil, SX.evUn, SX.evPick, SX.pickOpd, SX.popTo, SX.cnd, SX.env0, SX.TD.isAgg, SX.TD.isIface, SX.tails, SX.NotAgg, SX.evLookup, SX.evConvH, SX.evPtrEq, SX.isCells, SX.thaw, SX.frz, SX.fixB, SX.rootIx, SX.Froz, SX.frzStep, SX.fork, Go.Value.cells, Go.undef, cfg21, h4]
      refine ⟨by (unfold SX.Ob; first | trivial | omega | ((try simp only [SX.inK]); (try simp [SX.den, SX.IsU8, SX.AllP, *]); (try omega))), ?_⟩
      intro a14 w14 hr14' _
      have hr14 := hr13.unbase hr14'
      have hA := hr14.all
      rw [hb0]
      exact post_inv ⟨hP13.keep hr14'.keeps (loc_mB hr13.all rfl hne3), hr14.re (by simp [envTo, SX.look, den]) ⟨⟨hA.1.1, hA.1.2.1, by simp; omega⟩, ⟨hA.2.2.1.1, hA.2.2.1.2.1, by simp⟩, trivial⟩ rfl rfl⟩
    by_cases h8 : x.d = 8
    · have hb0 : ac.by_ = 0 := by rw [hby5, if_pos ((flds5 x.d).2 (.inr h8))]
      refine seg cfg21_ok mixed PanicFree.body 1000 [true] [(45, false)] hr13.rebase (by first | trivial | exact HpRep.nil | assumption) (by kernel_rfl) fun s_ hs_ => ?_
      simp (maxSteps := 10000000) [SX.vc, SX.stop, SX.contS, SX.contB, SX.contW, SX.contR, SX.contD, SX.sxStep, SX.stepPure, SX.stepNew, SX.stepStore, SX.stepKeep, SX.guardIx, SX.evOp, SX.opd, SX.opds, SX.optOpd, SX.look, SX.putS, SX.gobs, SX.AllP, SX.leave, SX.lookC, SX.lookB, SX.lookT, SX.lookN, SX.findK, SX.evBuiltin, SX.ints, SX.foldI, SX.evBin, SX.evInt, SX.evStr, SX.evEq, SX.arith, SX.evLoad, SX.shapeUp, SX.evFieldAddr, SX.evField, SX.evIndexAddr, SX.evIndex, SX.evFill, SX.evBuild, SX.szs, SX.cellsV, SX.evNew, SX.evStore, SX.spliceL, SX.SV.cells, SX.evConv, SX.evSlice, SX.bnd, SX.evNil, SX.evUn, SX.evPick, SX.pickOpd, SX.popTo, SX.cnd, SX.env0, SX.TD.isAgg, SX.TD.isIface, SX.tails, SX.NotAgg, SX.evLookup, SX.evConvH, SX.evPtrEq, SX.isCells, SX.thaw, SX.frz, SX.fixB, SX.rootIx, SX.Froz, SX.frzStep, SX.fork, Go.Value.cells, Go.undef, cfg21, h8]
      refine ⟨by (unfold SX.Ob; first | trivial | omega | ((try simp only [SX.inK]); (try simp [SX.den, SX.IsU8, SX.AllP, *]); (try omega))), ?_⟩
      intro a14 w14 hr14' _
      have hr14 := hr13.unbase hr14'
      have hA := hr14.all
      rw [hb0]
      exact post_inv ⟨hP13.keep hr14'.keeps (loc_mB hr13.all rfl hne3), hr14.re (by simp [envTo, SX.look, den]) ⟨⟨hA.1.1, hA.1.2.1, by simp; omega⟩, ⟨hA.2.2.1.1, hA.2.2.1.2.1, by simp⟩, trivial⟩ rfl rfl⟩
    · have hb0 : ac.by_ = x.by_ := by rw [hby5, if_neg (fun h => ((flds5 x.d).1 h).elim h4 h8)]
      refine seg cfg21_ok mixed PanicFree.body 1000 [false] [(45, false)] hr13.rebase (by first | trivial | exact HpRep.nil | assumption) (by kernel_rfl) fun s_ hs_ => ?_
      simp (maxSteps := 10000000) [SX.vc, SX.stop, SX.contS, SX.contB, SX.contW, SX.contR, SX.contD, SX.sxStep, SX.stepPure, SX.stepNew, SX.stepStore, SX.stepKeep, SX.guardIx, SX.evOp, SX.opd, SX.opds, SX.optOpd, SX.look, SX.putS, SX.gobs, SX.AllP, SX.leave, SX.lookC, SX.lookB, SX.lookT, SX.lookN, SX.findK, SX.evBuiltin, SX.ints, SX.foldI, SX.evBin, SX.evInt, SX.evStr, SX.evEq, SX.arith, SX.evLoad, SX.shapeUp, SX.evFieldAddr, SX.evField, SX.evIndexAddr, SX.evIndex, SX.evFill, SX.evBuild, SX.szs, SX.cellsV, SX.evNew, SX.evStore, SX.spliceL, SX.SV.cells, SX.evConv, SX.evSlice, SX.bnd, SX.evNil, SX.evUn, SX.evPick, SX.pickOpd, SX.popTo, SX.cnd, SX.env0, SX.TD.isAgg, SX.TD.isIface, SX.tails, SX.NotAgg, SX.evLookup, SX.evConvH, SX.evPtrEq, SX.isCells, SX.thaw, SX.frz, SX.fixB, SX.rootIx, SX.Froz, SX.frzStep, SX.fork, Go.Value.cells, Go.undef, cfg21, h4, h8]
      refine ⟨by (unfold SX.Ob; first | trivial | omega | ((try simp only [SX.inK]); (try simp [SX.den, SX.IsU8, SX.AllP, *]); (try omega))), ?_⟩
      intro a14 w14 hr14' _
      have hr14 := hr13.unbase hr14'
      have hA := hr14.all
      rw [hb0]
      exact post_inv ⟨hP13.keep hr14'.keeps (loc_mB hr13.all rfl hne3), hr14.re (by simp [envTo, SX.look, den]) ⟨⟨hA.1.1, hA.1.2.1, by simp; omega⟩, ⟨hA.2.2.1.1, hA.2.2.1.2.1, by simp⟩, trivial⟩ rfl rfl⟩
  obtain ⟨hP14, hr14⟩ := hJ
  clear hr13 hP13 hP12
  have hne2 : ∀ e ∈ [(A1, true, SO.cells (actC x x.by_) 37), (rB, true, .cells (actC ac ac.by_) 37)], e.1 ≠ b := by simp; omega
  refine seg cfg21_ok mixed PanicFree.body 1000 [] [] hr14.rebase (by first | trivial | exact HpRep.nil | assumption) (by kernel_rfl) fun s_ hs_ => ?_
  simp (maxSteps := 10000000) [SX.vc, SX.stop, SX.contS, SX.contB, SX.contW, SX.contR, SX.contD, SX.sxStep, SX.stepPure, SX.stepNew, SX.stepStore, SX.stepKeep, SX.guardIx, SX.evOp, SX.opd, SX.opds, SX.optOpd, SX.look, SX.putS, SX.gobs, SX.AllP, SX.leave, SX.lookC, SX.lookB, SX.lookT, SX.lookN, SX.findK, SX.evBuiltin, SX.ints, SX.foldI, SX.evBin, SX.evInt, SX.evStr, SX.evEq, SX.arith, SX.evLoad, SX.shapeUp, SX.evFieldAddr, SX.evField, SX.evIndexAddr, SX.evIndex, SX.evFill, SX.evBuild, SX.szs, SX.cellsV, SX.evNew, SX.evStore, SX.spliceL, SX.SV.cells, SX.evConv, SX.evSlice, SX.bnd, SX.evNil, SX.evUn, SX.evPick, SX.pickOpd, SX.popTo, SX.cnd, SX.env0, SX.TD.isAgg, SX.TD.isIface, SX.tails, SX.NotAgg, SX.evLookup, SX.evConvH, SX.evPtrEq, SX.isCells, SX.thaw, SX.frz, SX.fixB, SX.rootIx, SX.Froz, SX.frzStep, SX.fork, Go.Value.cells, Go.undef, cfg21]
  refine ⟨by (unfold SX.Ob; first | trivial | omega | ((try simp only [SX.inK]); (try simp [SX.den, SX.IsU8, SX.AllP, *]); (try omega))), ?_⟩
  intro a15 w15 hr15' _
  have hr15 := hr14.unbase hr15'
  have hP15 := hP14.keep hr15'.keeps (loc_mB hr14.all rfl hne2)
  refine post_eqP (C := cfg21) cfg21_ok (ok := fun t => t == 37) ok37 hr15 rfl rfl rfl (by kernel_rfl) (b := decide (ac = Ac.zero x.d)) (eqAc ac (Ac.zero x.d)) (by first | exact wanted_none rfl | exact wanted_zero (hr15.env.same rfl rfl rfl rfl) rfl (by simp)) rfl (by simp) rfl fun a_ hr16 => ?_
  simp only [SX.eqR] at hr16
  by_cases hz : ac = Ac.zero x.d
  · have hdz : (!decide (ac = Ac.zero x.d)) = false := by simp [hz]
    have h17 := hr16.top 55 (.v (.bool false)) rfl (by rw [← hdz])
    refine seg cfg21_ok mixed PanicFree.body 1000 [false] [] h17.rebase (by first | trivial | exact HpRep.nil | assumption) (by kernel_rfl) fun s_ hs_ => ?_
    simp (maxSteps := 10000000) [SX.vc, SX.stop, SX.contS, SX.contB, SX.contW, SX.contR, SX.contD, SX.sxStep, SX.stepPure, SX.stepNew, SX.stepStore, SX.stepKeep, SX.guardIx, SX.evOp, SX.opd, SX.opds, SX.optOpd, SX.look, SX.putS, SX.gobs, SX.AllP, SX.leave, SX.lookC, SX.lookB, SX.lookT, SX.lookN, SX.findK, SX.evBuiltin, SX.ints, SX.foldI, SX.evBin, SX.evInt, SX.evStr, SX.evEq, SX.arith, SX.evLoad, SX.shapeUp, SX.evFieldAddr, SX.evField, SX.evIndexAddr, SX.evIndex, SX.evFill, SX.evBuild, SX.szs, SX.cellsV, SX.evNew, SX.evStore, SX.spliceL, SX.SV.cells, SX.evConv, SX.evSlice, SX.bnd, SX.evNil, SX.evUn, SX.evPick, SX.pickOpd, SX.popTo, SX.cnd, SX.env0, SX.TD.isAgg, SX.TD.isIface, SX.tails, SX.NotAgg, SX.evLookup, SX.evConvH, SX.evPtrEq, SX.isCells, SX.thaw, SX.frz, SX.fixB, SX.rootIx, SX.Froz, SX.frzStep, SX.fork, Go.Value.cells, Go.undef, cfg21]
    refine ⟨by (unfold SX.Ob; first | trivial | omega | ((try simp only [SX.inK]); (try simp [SX.den, SX.IsU8, SX.AllP, *]); (try omega))), ?_⟩
    intro a18 w18 hr18' _
    have hr18 := h17.unbase hr18'
    refine post_nil (end0 hr18 rfl ⟨rfl, ?_, hr18.keeps⟩).2
    rw [hdz, Bool.or_false]
    exact hP15.keep hr18'.keeps (loc_mB h17.all rfl hne2)
  · have hdz : (!decide (ac = Ac.zero x.d)) = true := by simp [hz]
    have h17 := hr16.top 55 (.v (.bool true)) rfl (by rw [← hdz])
    obtain ⟨p, v, hpb, hcl⟩ := hP15.opn
    have hA := h17.all
    have h18 := (h17.top 0 (.ptr 2 b 0) rfl (by simp [den])).see [(A1, true, .cells (actC x x.by_) 37), (rB, true, .cells (actC ac ac.by_) 37), (b, true, .cells [.v p, .v v, .v (.bool s.bad)] 46)] ⟨⟨hA.1.1, hA.1.2.1, by simp; omega⟩, ⟨hA.2.1.1, hA.2.1.2.1, by simp; omega⟩, ⟨hpb, fun _ => .inr hmem, by simp⟩, trivial⟩
    have hl := loc_mB (B := B) h17.all rfl hne2
    refine seg cfg21_ok mixed PanicFree.body 1000 [true] [] h18.rebase (by first | trivial | exact HpRep.nil | assumption) (by kernel_rfl) fun s_ hs_ => ?_
    simp (maxSteps := 10000000) [SX.vc, SX.stop, SX.contS, SX.contB, SX.contW, SX.contR, SX.contD, SX.sxStep, SX.stepPure, SX.stepNew, SX.stepStore, SX.stepKeep, SX.guardIx, SX.evOp, SX.opd, SX.opds, SX.optOpd, SX.look, SX.putS, SX.gobs, SX.AllP, SX.leave, SX.lookC, SX.lookB, SX.lookT, SX.lookN, SX.findK, SX.evBuiltin, SX.ints, SX.foldI, SX.evBin, SX.evInt, SX.evStr, SX.evEq, SX.arith, SX.evLoad, SX.shapeUp, SX.evFieldAddr, SX.evField, SX.evIndexAddr, SX.evIndex, SX.evFill, SX.evBuild, SX.szs, SX.cellsV, SX.evNew, SX.evStore, SX.spliceL, SX.SV.cells, SX.evConv, SX.evSlice, SX.bnd, SX.evNil, SX.evUn, SX.evPick, SX.pickOpd, SX.popTo, SX.cnd, SX.env0, SX.TD.isAgg, SX.TD.isIface, SX.tails, SX.NotAgg, SX.evLookup, SX.evConvH, SX.evPtrEq, SX.isCells, SX.thaw, SX.frz, SX.fixB, SX.rootIx, SX.Froz, SX.frzStep, SX.fork, Go.Value.cells, Go.undef, cfg21]
    refine ⟨by (unfold SX.Ob; first | trivial | omega | ((try simp only [SX.inK]); (try simp [SX.den, SX.IsU8, SX.AllP, *]); (try omega))), ?_⟩
    intro a19 w19 hr19' _
    have hr19 := h18.unbase hr19'
    refine post_nil (end0 hr19 rfl ⟨rfl, ?_, hr19.keeps⟩).2
    rw [hdz, Bool.or_true]
    refine hcl w19 _ true hr19'.keeps (fun y hy => ?_) hr19.all.2.2.1.1
    have hy' : y = A1 ∨ y = rB ∨ y = b := by simpa [frameAt, mutB] using hy
    rcases hy' with rfl | rfl | rfl
    · exact .inr (hl _ (by simp [mutB]))
    · exact .inr (hl _ (by simp [mutB]))
    · exact .inl rfl
end Go.Proofs
