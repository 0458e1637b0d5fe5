/- Spans: SpanBack walked. -/
import Derived.Test.YtpgknabmpghcoaaQH
import Derived.Test.YtpgknabmpghcoaaPR
namespace Go.Proofs
set_option linter.unusedVariables false
set_option linter.unusedSimpArgs false
open Go Go.SX Go.RowKit

def triC (g : Int × Int × Int) : List SV := [.v (.int .i64 g.1), .v (.int .i64 g.2.1), .v (.int .i64 g.2.2)]
abbrev RdG := RdS triC 3 ((0, 0, 0) : Int × Int × Int)

theorem tmod_pos {x n : Int} (hn : 0 < n) : 0 ≤ (x.tmod n + n).tmod n ∧ (x.tmod n + n).tmod n < n := by
  have h1 : -n < x.tmod n := by
    rcases Int.le_total 0 x with h | h
    · have := Int.tmod_nonneg n h
      omega
    · have h2 := Int.tmod_nonneg n (show 0 ≤ -x by omega)
      rw [Int.neg_tmod] at h2
      have h3 := Int.tmod_lt_of_pos (-x) hn
      rw [Int.neg_tmod] at h3
      omega
  exact ⟨Int.tmod_nonneg n (by omega), Int.tmod_lt_of_pos _ hn⟩

/-- The length of a map in a plain region. -/
theorem post_maplen {P : Program} {Q : Exit → Act → World → Prop} {F : Fr} {st : St} {all : Array Oper} {o : Oper} {l : List Oper} {ks : List W} {a : Act} {w : World} {args : Array Operand} {t kt et : TypeId} {j b : Nat} {m : Int → Option SV} (keys : List Int)
    (hr : RepX F st a w) (hw : Region.wanted o (yielded all a.tmps) = true) {d : Nat} (hd : o.dst = some d) (hop : o.op = .call { callee := .builtin .len, args := args, argTypes := #[t] }) (h : opds st 0 args.toList = some [.mp j b]) (ht : P.underlying t = some (.map kt et))
    (hm : (SO.imap m).rep w b) (hn : keys.Nodup) (hk : ∀ k, (m k).isSome = true ↔ k ∈ keys) (hdn : d < st.nt) (hks : st.ks.all (fun r => r.tj != d) = true)
    (hc : ∀ a', RepX F { st with env := (d, 0, .v (.int .i64 keys.length)) :: st.env } a' w → post P Q (.ops all l :: ks) .normal a' w) : post P Q (.ops all (o :: l) :: ks) .normal a w := by
  refine post_stepG (v := .int .i64 keys.length) hw (exec_maplen (c := 0) (hr.env.same (st' := st) rfl rfl rfl rfl) rfl hop h ht hm hn hk) ?_
  rw [hd]
  exact hc _ (hr.retK (KeepsTo.refl w []) (by simp) d (.v (.int .i64 keys.length)) rfl st.hp hr.all hdn hks)

def B2Loop (ws : World) (vg : Value) (G : List (Int × Int × Int)) (n o : Int) (cH k : Nat) (vs : Value) (H : Int → Bool) (f t : Int) (S : List Spn) (m : Nat) (a : Act) (w' : World) : Prop :=
  ∃ j : Nat, m = (t - f).toNat - j ∧ j ≤ (t - f).toNat ∧ RdP (fun x => x ≠ cH) w' vs S ∧
    RepX (frame0 ws) ⟨[(17, 0, .v (.int .i64 (f + j))), (14, 0, .v (.int .i64 t)), (51, 0, .v (.int .i64 k)), (50, 0, .v (.int .i64 G.length)), (49, 0, .v vg), (10, 0, .mp 0 cH), (8, 0, .v vs), (0, 0, .v (.int .i64 n)), (2, 0, .v (.int .i64 o)), (7, 0, .v (.bool true)), (6, 0, .v (.bool false))], [(cH, true, .imap (hasM (addR H f j)))], 0, 0, 169, [], [], []⟩ a w'
def B3Loop (ws : World) (W : List Spn) (vw : Value) (o : Int) (cH : Nat) (H : Int → Bool) (m : Nat) (a : Act) (w' : World) : Prop :=
  ∃ k : Nat, m = W.length - k ∧ k ≤ W.length ∧ RdP (fun x => x ≠ cH) w' vw W ∧
    RepX (frame0 ws) ⟨[(137, 0, .v (.int .i64 k)), (136, 0, .v (.int .i64 W.length)), (135, 0, .v vw), (23, 0, .v (.int .i64 (sumS (W.take k)))), (10, 0, .mp 0 cH), (2, 0, .v (.int .i64 o)), (7, 0, .v (.bool true)), (6, 0, .v (.bool false))], [(cH, true, .imap (hasM H))], 0, 0, 169, [], [], []⟩ a w'
def B4Loop (ws : World) (W : List Spn) (vw : Value) (o : Int) (cH k : Nat) (H : Int → Bool) (x : Spn) (p : Int) (sX : Nat) (m : Nat) (a : Act) (w' : World) : Prop :=
  ∃ j : Nat, m = (x.to - x.fr).toNat - j ∧ j ≤ (x.to - x.fr).toNat ∧ RdP (fun x => x ≠ cH ∧ x ≠ sX) w' vw W ∧
    RepX (frame0 ws) ⟨[(26, 0, .v (.int .i64 (x.fr + j))), (23, 0, .v (.int .i64 (p + j))), (25, 0, .ptr 1 sX 0), (137, 0, .v (.int .i64 k)), (136, 0, .v (.int .i64 W.length)), (135, 0, .v vw), (10, 0, .mp 0 cH), (2, 0, .v (.int .i64 o)), (7, 0, .v (.bool true)), (6, 0, .v (.bool false))], [(cH, true, .imap (hasM H)), (sX, true, .cells (spnC x) 35)], 0, 0, 169, [], [], []⟩ a w'

def B1Loop (ws : World) (vg : Value) (G : List (Int × Int × Int)) (n o : Int) (cH : Nat) (m : Nat) (a : Act) (w' : World) : Prop :=
  ∃ (k : Nat) (S : List Spn) (vs : Value) (H : Int → Bool), m = G.length - k ∧ k ≤ G.length ∧ BackF S H n o k ∧ S.length ≤ 1 + 2 * k ∧ RdP (fun x => x ≠ cH) w' vs S ∧
    RepX (frame0 ws) ⟨[(51, 0, .v (.int .i64 k)), (50, 0, .v (.int .i64 G.length)), (49, 0, .v vg), (10, 0, .mp 0 cH), (8, 0, .v vs), (0, 0, .v (.int .i64 n)), (2, 0, .v (.int .i64 o)), (7, 0, .v (.bool true)), (6, 0, .v (.bool false))], [(cH, true, .imap (hasM H))], 0, 0, 169, [], [], []⟩ a w'

set_option maxRecDepth 100000 in
set_option maxHeartbeats 32000000 in
/-- SpanBack. -/
theorem back_ok (w : World) (vg : Value) (G : List (Int × Int × Int)) (n0 o0 : Int) (hG : RdG (fun x => x < w.heap.size) w vg G) (hn0 : inK n0) (ho0 : inK o0) : Calls Try.prog 6 #[.int .i64 n0, vg, .int .i64 o0] w (fun ev w' => ev = .returned (.bool true) ∧ Below w.heap.size w w') := by
  obtain ⟨ad, cp, rfl⟩ := hG.slice
  refine enter (F := frame0 w) Try.func6 rfl [.v (.int .i64 n0), .v (.slice ad G.length cp), .v (.int .i64 o0)] [] (by simp [Try.f6, denL, den]) trivial (keeps0 w) fun a hr => ?_
  unfold inK at hn0 ho0
  have q8 := tmod_pos (x := o0) (n := 8) (by decide)
  have r8 : o0.tmod 8 < 8 := Int.tmod_lt_of_pos _ (by decide)
  obtain ⟨o, ho⟩ : ∃ o, (o0.tmod 8 + 8).tmod 8 = o := ⟨_, rfl⟩
  rw [ho] at q8
  have q200 := tmod_pos (x := n0) (n := 200) (by decide)
  obtain ⟨n1, hn1⟩ : ∃ n, (n0.tmod 200 + 200).tmod 200 = n := ⟨_, rfl⟩
  rw [hn1] at q200
  have s8 : -8 < o0.tmod 8 ∧ o0.tmod 8 < 8 := ⟨Int.lt_tmod_of_pos _ (by decide), Int.tmod_lt_of_pos _ (by decide)⟩
  have s200 : -200 < n0.tmod 200 ∧ n0.tmod 200 < 200 := ⟨Int.lt_tmod_of_pos _ (by decide), Int.tmod_lt_of_pos _ (by decide)⟩
  obtain ⟨n, hn⟩ : ∃ n, 1 + n1 = n := ⟨_, rfl⟩
  refine seg cfg6_ok mixed PanicFree.body 1000 [] [] hr (by first | trivial | exact HpRep.nil | assumption) (by kernel_rfl) fun s_ hs_ => ?_
  simp (maxSteps := 10000000) [SX.vc, SX.stop, SX.contS, SX.contB, SX.contW, SX.contR, SX.contD, SX.sxStep, SX.stepPure, SX.stepNew, SX.stepStore, SX.stepKeep, SX.guardIx, SX.evOp, SX.opd, SX.opds, SX.optOpd, SX.look, SX.putS, SX.gobs, SX.AllP, SX.leave, SX.lookC, SX.lookB, SX.lookT, SX.lookN, SX.findK, SX.evBuiltin, SX.ints, SX.foldI, SX.evBin, SX.evInt, SX.evStr, SX.evEq, SX.arith, SX.evLoad, SX.shapeUp, SX.evFieldAddr, SX.evField, SX.evIndexAddr, SX.evIndex, SX.evFill, SX.evBuild, SX.szs, SX.cellsV, SX.evNew, SX.evStore, SX.spliceL, SX.SV.cells, SX.evConv, SX.evSlice, SX.bnd, SX.evNil, SX.evUn, SX.evPick, SX.pickOpd, SX.popTo, SX.cnd, SX.env0, SX.TD.isAgg, SX.TD.isIface, SX.tails, SX.NotAgg, SX.evLookup, SX.evConvH, SX.evPtrEq, SX.isCells, SX.thaw, SX.frz, SX.fixB, SX.rootIx, SX.Froz, SX.frzStep, SX.fork, Go.Value.cells, Go.undef, cfg6, Try.f6]
  refine ⟨by (unfold SX.Ob; first | trivial | omega | ((try simp only [SX.inK]); (try simp [SX.den, SX.IsU8, SX.AllP, *]); (try omega))), ?_⟩
  intro a1 w1 hr1 _
  refine post_call 8 [] hr1 (by first | exact wanted_none rfl | exact wanted_zero (hr1.env.same rfl rfl rfl rfl) rfl (by simp)) rfl (callable 8 Try.func8) (live_ok w1) ?_
  rintro e2' w2 ⟨rfl, hb2⟩
  refine ⟨_, rfl, ?_⟩
  have h2 := hr1.ret hb2 27 (.v (.bool true)) rfl _ (hr1.all.below hb2) (by simp) rfl
  by_cases c1 : 50 < G.length
  · have c1' : (50 : Int) < (G.length : Int) := by omega
    refine seg cfg6_ok mixed PanicFree.body 1000 [true] [] h2 (by first | trivial | exact HpRep.nil | assumption) (by kernel_rfl) fun s_ hs_ => ?_
    simp (maxSteps := 10000000) [SX.vc, SX.stop, SX.contS, SX.contB, SX.contW, SX.contR, SX.contD, SX.sxStep, SX.stepPure, SX.stepNew, SX.stepStore, SX.stepKeep, SX.guardIx, SX.evOp, SX.opd, SX.opds, SX.optOpd, SX.look, SX.putS, SX.gobs, SX.AllP, SX.leave, SX.lookC, SX.lookB, SX.lookT, SX.lookN, SX.findK, SX.evBuiltin, SX.ints, SX.foldI, SX.evBin, SX.evInt, SX.evStr, SX.evEq, SX.arith, SX.evLoad, SX.shapeUp, SX.evFieldAddr, SX.evField, SX.evIndexAddr, SX.evIndex, SX.evFill, SX.evBuild, SX.szs, SX.cellsV, SX.evNew, SX.evStore, SX.spliceL, SX.SV.cells, SX.evConv, SX.evSlice, SX.bnd, SX.evNil, SX.evUn, SX.evPick, SX.pickOpd, SX.popTo, SX.cnd, SX.env0, SX.TD.isAgg, SX.TD.isIface, SX.tails, SX.NotAgg, SX.evLookup, SX.evConvH, SX.evPtrEq, SX.isCells, SX.thaw, SX.frz, SX.fixB, SX.rootIx, SX.Froz, SX.frzStep, SX.fork, Go.Value.cells, Go.undef, cfg6, ho, c1']
    refine ⟨by (unfold SX.Ob; first | trivial | omega | ((try simp only [SX.inK]); (try simp [SX.den, SX.IsU8, SX.AllP, *]); (try omega))), ?_⟩
    intro a3 w3 hr3 _
    exact post_retn (end1 hr3 rfl rfl ⟨rfl, hr3.keeps.toBelow⟩).1
  have c1' : ¬ (50 : Int) < (G.length : Int) := by omega
  refine seg cfg6_ok mixed PanicFree.body 1000 [false] [] h2 (by first | trivial | exact HpRep.nil | assumption) (by kernel_rfl) fun s_ hs_ => ?_
  simp (maxSteps := 10000000) [SX.vc, SX.stop, SX.contS, SX.contB, SX.contW, SX.contR, SX.contD, SX.sxStep, SX.stepPure, SX.stepNew, SX.stepStore, SX.stepKeep, SX.guardIx, SX.evOp, SX.opd, SX.opds, SX.optOpd, SX.look, SX.putS, SX.gobs, SX.AllP, SX.leave, SX.lookC, SX.lookB, SX.lookT, SX.lookN, SX.findK, SX.evBuiltin, SX.ints, SX.foldI, SX.evBin, SX.evInt, SX.evStr, SX.evEq, SX.arith, SX.evLoad, SX.shapeUp, SX.evFieldAddr, SX.evField, SX.evIndexAddr, SX.evIndex, SX.evFill, SX.evBuild, SX.szs, SX.cellsV, SX.evNew, SX.evStore, SX.spliceL, SX.SV.cells, SX.evConv, SX.evSlice, SX.bnd, SX.evNil, SX.evUn, SX.evPick, SX.pickOpd, SX.popTo, SX.cnd, SX.env0, SX.TD.isAgg, SX.TD.isIface, SX.tails, SX.NotAgg, SX.evLookup, SX.evConvH, SX.evPtrEq, SX.isCells, SX.thaw, SX.frz, SX.fixB, SX.rootIx, SX.Froz, SX.frzStep, SX.fork, Go.Value.cells, Go.undef, cfg6, ho, hn1, hn, c1']
  refine ⟨by (unfold SX.Ob; first | trivial | omega | ((try simp only [SX.inK]); (try simp [SX.den, SX.IsU8, SX.AllP, *]); (try omega))), ?_⟩
  intro a3 w3 hr3 _
  refine post_call 9 [.v (.int .i64 n)] hr3 (by first | exact wanted_none rfl | exact wanted_zero (hr3.env.same rfl rfl rfl rfl) rfl (by simp)) rfl (callable 9 Try.func9) (New_good w3 n (by omega) (by omega)) ?_
  rintro e4 w4 ⟨v4, rfl, hL4, hb4⟩
  refine ⟨_, rfl, ?_⟩
  have h4 := hr3.ret hb4 43 (.tu [.v v4, .v (.int .i64 0)]) rfl _ (hr3.all.below hb4) (by simp) rfl
  refine seg cfg6_ok mixed PanicFree.body 1000 [false] [] h4.rebase (by first | trivial | exact HpRep.nil | assumption) (by kernel_rfl) fun cH hcH => ?_
  simp (maxSteps := 10000000) [SX.vc, SX.stop, SX.contS, SX.contB, SX.contW, SX.contR, SX.contD, SX.sxStep, SX.stepPure, SX.stepNew, SX.stepStore, SX.stepKeep, SX.guardIx, SX.evOp, SX.opd, SX.opds, SX.optOpd, SX.look, SX.putS, SX.gobs, SX.AllP, SX.leave, SX.lookC, SX.lookB, SX.lookT, SX.lookN, SX.findK, SX.evBuiltin, SX.ints, SX.foldI, SX.evBin, SX.evInt, SX.evStr, SX.evEq, SX.arith, SX.evLoad, SX.shapeUp, SX.evFieldAddr, SX.evField, SX.evIndexAddr, SX.evIndex, SX.evFill, SX.evBuild, SX.szs, SX.cellsV, SX.evNew, SX.evStore, SX.spliceL, SX.SV.cells, SX.evConv, SX.evSlice, SX.bnd, SX.evNil, SX.evUn, SX.evPick, SX.pickOpd, SX.popTo, SX.cnd, SX.env0, SX.TD.isAgg, SX.TD.isIface, SX.tails, SX.NotAgg, SX.evLookup, SX.evConvH, SX.evPtrEq, SX.isCells, SX.thaw, SX.frz, SX.fixB, SX.rootIx, SX.Froz, SX.frzStep, SX.fork, Go.Value.cells, Go.undef, cfg6]
  refine ⟨by (unfold SX.Ob; first | trivial | omega | ((try simp only [SX.inK]); (try simp [SX.den, SX.IsU8, SX.AllP, *]); (try omega))), ?_⟩
  intro a5 w5 hr5' _
  have hr5 := h4.unbase hr5'
  have hcH := hr5'.all.1.2.1 rfl
  have hcH4 : w4.heap.size ≤ cH := by
    rcases hcH with h | h
    · exact h
    · simp [frameAt, mutB] at h
  have hL5 := (hL4.mono (P' := fun x => x ≠ cH) fun x h _ => by omega).keep hr5'.keeps (by simp [frameAt, mutB])
  have z4 : w.heap.size ≤ w4.heap.size := h4.keeps.size
  refine post_loop (B1Loop w (.slice ad G.length cp) G n o cH) G.length ⟨0, _, v4, fun _ => false, rfl, by omega, back0 (by omega) (by omega) q8.1, by simp, hL5, hr5.re (by simp [envTo, SX.look, den]) ⟨⟨by rw [show hasM (fun _ => false) = fun _ => none from by funext x; simp [hasM]]; exact hr5.all.1.1, fun _ => .inl (Nat.le_trans z4 hcH4), by simp⟩, trivial⟩ rfl rfl⟩ ?_
  rintro m a6 w6 ⟨k, S, vs, H, rfl, hk, hB, hSl, hS6, hr6⟩
  have hmp := hr6.all.1
  by_cases hlt : k < G.length
  · obtain ⟨b, o0', cap, u, fz, hP, hv, hrep⟩ := hG.opn hlt
    cases hv
    have hbw := SO.rep_lt hrep
    have hrep2 := SO.rep_same hrep (hr6.keeps.toBelow.block _ hbw)
    obtain ⟨g, hg⟩ : ∃ g, nth ((0, 0, 0) : Int × Int × Int) G k = g := ⟨_, rfl⟩
    have pn : 0 < n := by omega
    have tf := tmod_pos (x := g.1) pn
    have tf1 : -n < g.1.tmod n ∧ g.1.tmod n < n := ⟨Int.lt_tmod_of_pos _ pn, Int.tmod_lt_of_pos _ pn⟩
    obtain ⟨f, hf⟩ : ∃ f, (g.1.tmod n + n).tmod n = f := ⟨_, rfl⟩
    rw [hf] at tf
    have tr := tmod_pos (x := g.2.1) (n := 30) (by decide)
    have tr1 : -30 < g.2.1.tmod 30 ∧ g.2.1.tmod 30 < 30 := ⟨Int.lt_tmod_of_pos _ (by decide), Int.tmod_lt_of_pos _ (by decide)⟩
    obtain ⟨r, hr0⟩ : ∃ r, (g.2.1.tmod 30 + 30).tmod 30 = r := ⟨_, rfl⟩
    rw [hr0] at tr
    obtain ⟨t, ht⟩ : ∃ t, (if f + 1 + r < n then f + 1 + r else n) = t := ⟨_, rfl⟩
    have htr : f < t ∧ t ≤ n := by rw [← ht]; split <;> omega
    obtain ⟨gE, gB⟩ := back_give (t := t) hB q8.1 q8.2 tf.1 htr.1 htr.2
    have gl := give_len S f t o (1 + k)
    have h7 := (hr6.top 49 (.sl 1 b o0' 0 G.length cp 3) rfl (by simp [den])).see [(cH, true, .imap (hasM H)), (b, false, .arr o0' G.length (fun j => triC (nth (0, 0, 0) G j)) 3 u fz)] ⟨⟨hmp.1, hmp.2.1, by simp; omega⟩, HpAll.one hrep2⟩
    have ob1 : n ≠ 0 := by omega
    refine seg cfg6_ok mixed PanicFree.body 1000 [true] [] h7.rebase (by first | trivial | exact HpRep.nil | assumption) (by kernel_rfl) fun s_ hs_ => ?_
    simp (maxSteps := 10000000) [SX.vc, SX.stop, SX.contS, SX.contB, SX.contW, SX.contR, SX.contD, SX.sxStep, SX.stepPure, SX.stepNew, SX.stepStore, SX.stepKeep, SX.guardIx, SX.evOp, SX.opd, SX.opds, SX.optOpd, SX.look, SX.putS, SX.gobs, SX.AllP, SX.leave, SX.lookC, SX.lookB, SX.lookT, SX.lookN, SX.findK, SX.evBuiltin, SX.ints, SX.foldI, SX.evBin, SX.evInt, SX.evStr, SX.evEq, SX.arith, SX.evLoad, SX.shapeUp, SX.evFieldAddr, SX.evField, SX.evIndexAddr, SX.evIndex, SX.evFill, SX.evBuild, SX.szs, SX.cellsV, SX.evNew, SX.evStore, SX.spliceL, SX.SV.cells, SX.evConv, SX.evSlice, SX.bnd, SX.evNil, SX.evUn, SX.evPick, SX.pickOpd, SX.popTo, SX.cnd, SX.env0, SX.TD.isAgg, SX.TD.isIface, SX.tails, SX.NotAgg, SX.evLookup, SX.evConvH, SX.evPtrEq, SX.isCells, SX.thaw, SX.frz, SX.fixB, SX.rootIx, SX.Froz, SX.frzStep, SX.fork, Go.Value.cells, Go.undef, cfg6, triC, hg, hf, hr0, ht]
    refine ⟨by (unfold SX.Ob; first | trivial | omega | ((try simp only [SX.inK]); (try simp [SX.den, SX.IsU8, SX.AllP, *]); (try omega))), ?_⟩
    intro a8 w8 hr8' _
    have hr8 := h7.unbase hr8'
    have hS8 := hS6.keep hr8'.keeps (by simp [frameAt, mutB])
    have hm8 := hr8.all.1
    have hcH8 := SO.rep_lt hm8.1
    refine post_call 10 [.v vs, .v (.int .i64 f), .v (.int .i64 t), .v (.int .i64 o), .v (.int .i64 (1 + k))] hr8 (by first | exact wanted_none rfl | exact wanted_zero (hr8.env.same rfl rfl rfl rfl) rfl (by simp)) rfl (callable 10 Try.func10) (Give_ok w8 vs S f t o (1 + k) hS8 (by omega)) ?_
    rintro e9 w9 ⟨v9, rfl, hO9, hb9⟩
    refine ⟨_, rfl, ?_⟩
    have h9' := hr8.ret hb9 81 (.tu [.v v9, .v (.int .i64 (giveE S f t o (1 + k)))]) rfl _ (hr8.all.below hb9) (by simp) rfl
    have h9 := h9'.see [(cH, true, .imap (hasM H))] ⟨⟨(h9'.all.take 1).1.1, hm8.2.1, by simp⟩, trivial⟩
    refine seg cfg6_ok mixed PanicFree.body 1000 [false] [] h9.rebase (by first | trivial | exact HpRep.nil | assumption) (by kernel_rfl) fun s_ hs_ => ?_
    simp (maxSteps := 10000000) [SX.vc, SX.stop, SX.contS, SX.contB, SX.contW, SX.contR, SX.contD, SX.sxStep, SX.stepPure, SX.stepNew, SX.stepStore, SX.stepKeep, SX.guardIx, SX.evOp, SX.opd, SX.opds, SX.optOpd, SX.look, SX.putS, SX.gobs, SX.AllP, SX.leave, SX.lookC, SX.lookB, SX.lookT, SX.lookN, SX.findK, SX.evBuiltin, SX.ints, SX.foldI, SX.evBin, SX.evInt, SX.evStr, SX.evEq, SX.arith, SX.evLoad, SX.shapeUp, SX.evFieldAddr, SX.evField, SX.evIndexAddr, SX.evIndex, SX.evFill, SX.evBuild, SX.szs, SX.cellsV, SX.evNew, SX.evStore, SX.spliceL, SX.SV.cells, SX.evConv, SX.evSlice, SX.bnd, SX.evNil, SX.evUn, SX.evPick, SX.pickOpd, SX.popTo, SX.cnd, SX.env0, SX.TD.isAgg, SX.TD.isIface, SX.tails, SX.NotAgg, SX.evLookup, SX.evConvH, SX.evPtrEq, SX.isCells, SX.thaw, SX.frz, SX.fixB, SX.rootIx, SX.Froz, SX.frzStep, SX.fork, Go.Value.cells, Go.undef, cfg6, gE]
    refine ⟨by (unfold SX.Ob; first | trivial | omega | ((try simp only [SX.inK]); (try simp [SX.den, SX.IsU8, SX.AllP, *]); (try omega))), ?_⟩
    intro a10 w10 hr10' _
    have hr10 := h9.unbase hr10'
    have hS10 := (hO9.rd.mono (P' := fun x => x ≠ cH) fun x _ h => by omega).keep hr10'.keeps (by simp [frameAt, mutB])
    obtain ⟨S2, hS2⟩ : ∃ S2, giveL S f t o (1 + k) = S2 := ⟨_, rfl⟩
    rw [hS2] at gB gl hS10
    refine post_loop (B2Loop w (.slice (some ⟨b, o0', none⟩) G.length cp) G n o cH k v9 H f t S2) (t - f).toNat ⟨0, rfl, by omega, hS10, hr10.re (by simp [envTo, SX.look, den]) ⟨⟨by rw [addR_zero]; exact hr10.all.1.1, hr10.all.1.2.1, by simp⟩, trivial⟩ rfl rfl⟩ ?_
    rintro m a11 w11 ⟨j, rfl, hj, hS11, hr11⟩
    by_cases hltj : j < (t - f).toNat
    · have hjt : f + (j : Int) < t := by omega
      refine seg cfg6_ok mixed PanicFree.body 1000 [true] [] hr11.rebase (by first | trivial | exact HpRep.nil | assumption) (by kernel_rfl) fun s_ hs_ => ?_
      simp (maxSteps := 10000000) [SX.vc, SX.stop, SX.contS, SX.contB, SX.contW, SX.contR, SX.contD, SX.sxStep, SX.stepPure, SX.stepNew, SX.stepStore, SX.stepKeep, SX.guardIx, SX.evOp, SX.opd, SX.opds, SX.optOpd, SX.look, SX.putS, SX.gobs, SX.AllP, SX.leave, SX.lookC, SX.lookB, SX.lookT, SX.lookN, SX.findK, SX.evBuiltin, SX.ints, SX.foldI, SX.evBin, SX.evInt, SX.evStr, SX.evEq, SX.arith, SX.evLoad, SX.shapeUp, SX.evFieldAddr, SX.evField, SX.evIndexAddr, SX.evIndex, SX.evFill, SX.evBuild, SX.szs, SX.cellsV, SX.evNew, SX.evStore, SX.spliceL, SX.SV.cells, SX.evConv, SX.evSlice, SX.bnd, SX.evNil, SX.evUn, SX.evPick, SX.pickOpd, SX.popTo, SX.cnd, SX.env0, SX.TD.isAgg, SX.TD.isIface, SX.tails, SX.NotAgg, SX.evLookup, SX.evConvH, SX.evPtrEq, SX.isCells, SX.thaw, SX.frz, SX.fixB, SX.rootIx, SX.Froz, SX.frzStep, SX.fork, Go.Value.cells, Go.undef, cfg6, hjt, updFn_hasM, addFn_addR]
      refine ⟨by (unfold SX.Ob; first | trivial | omega | ((try simp only [SX.inK]); (try simp [SX.den, SX.IsU8, SX.AllP, *]); (try omega))), ?_⟩
      intro a12 w12 hr12' _
      have hr12 := hr11.unbase hr12'
      exact post_rnd ((t - f).toNat - (j + 1)) (by omega) ⟨j + 1, rfl, hltj, hS11.keep hr12'.keeps (by simp [frameAt, mutB]), hr12.re (by simp [envTo, SX.look, den]; omega) hr12.all rfl rfl⟩
    · obtain rfl : j = (t - f).toNat := by omega
      have hjt : f + ((t - f).toNat : Int) = t := by omega
      rw [hjt] at hr11
      refine seg cfg6_ok mixed PanicFree.body 1000 [false] [] hr11.rebase (by first | trivial | exact HpRep.nil | assumption) (by kernel_rfl) fun s_ hs_ => ?_
      simp (maxSteps := 10000000) [SX.vc, SX.stop, SX.contS, SX.contB, SX.contW, SX.contR, SX.contD, SX.sxStep, SX.stepPure, SX.stepNew, SX.stepStore, SX.stepKeep, SX.guardIx, SX.evOp, SX.opd, SX.opds, SX.optOpd, SX.look, SX.putS, SX.gobs, SX.AllP, SX.leave, SX.lookC, SX.lookB, SX.lookT, SX.lookN, SX.findK, SX.evBuiltin, SX.ints, SX.foldI, SX.evBin, SX.evInt, SX.evStr, SX.evEq, SX.arith, SX.evLoad, SX.shapeUp, SX.evFieldAddr, SX.evField, SX.evIndexAddr, SX.evIndex, SX.evFill, SX.evBuild, SX.szs, SX.cellsV, SX.evNew, SX.evStore, SX.spliceL, SX.SV.cells, SX.evConv, SX.evSlice, SX.bnd, SX.evNil, SX.evUn, SX.evPick, SX.pickOpd, SX.popTo, SX.cnd, SX.env0, SX.TD.isAgg, SX.TD.isIface, SX.tails, SX.NotAgg, SX.evLookup, SX.evConvH, SX.evPtrEq, SX.isCells, SX.thaw, SX.frz, SX.fixB, SX.rootIx, SX.Froz, SX.frzStep, SX.fork, Go.Value.cells, Go.undef, cfg6]
      refine ⟨by (unfold SX.Ob; first | trivial | omega | ((try simp only [SX.inK]); (try simp [SX.den, SX.IsU8, SX.AllP, *]); (try omega))), ?_⟩
      intro a12 w12 hr12' _
      have hr12 := hr11.unbase hr12'
      exact post_rnd (G.length - (k + 1)) (by omega) ⟨k + 1, S2, v9, _, rfl, hlt, gB, by omega, hS11.keep hr12'.keeps (by simp [frameAt, mutB]), hr12.re (by simp [envTo, SX.look, den]) hr12.all rfl rfl⟩
  obtain rfl : k = G.length := by omega
  obtain ⟨nn, hnn⟩ : ∃ m : Nat, n = m := ⟨n.toNat, by omega⟩
  obtain ⟨cn1, cn2, cn3⟩ := back_counts hB hnn q8.1
  have hbt := back_take hB q8.1 q8.2
  have cnod := keysS_nodup H nn
  obtain ⟨K, hK⟩ : ∃ K, keysS H nn = K := ⟨_, rfl⟩
  rw [hK] at cn1 cn2 cn3 cnod
  clear hK hnn
  refine seg cfg6_ok mixed PanicFree.body 1000 [false] [] hr6.rebase (by first | trivial | exact HpRep.nil | assumption) (by kernel_rfl) fun s_ hs_ => ?_
  simp (maxSteps := 10000000) [SX.vc, SX.stop, SX.contS, SX.contB, SX.contW, SX.contR, SX.contD, SX.sxStep, SX.stepPure, SX.stepNew, SX.stepStore, SX.stepKeep, SX.guardIx, SX.evOp, SX.opd, SX.opds, SX.optOpd, SX.look, SX.putS, SX.gobs, SX.AllP, SX.leave, SX.lookC, SX.lookB, SX.lookT, SX.lookN, SX.findK, SX.evBuiltin, SX.ints, SX.foldI, SX.evBin, SX.evInt, SX.evStr, SX.evEq, SX.arith, SX.evLoad, SX.shapeUp, SX.evFieldAddr, SX.evField, SX.evIndexAddr, SX.evIndex, SX.evFill, SX.evBuild, SX.szs, SX.cellsV, SX.evNew, SX.evStore, SX.spliceL, SX.SV.cells, SX.evConv, SX.evSlice, SX.bnd, SX.evNil, SX.evUn, SX.evPick, SX.pickOpd, SX.popTo, SX.cnd, SX.env0, SX.TD.isAgg, SX.TD.isIface, SX.tails, SX.NotAgg, SX.evLookup, SX.evConvH, SX.evPtrEq, SX.isCells, SX.thaw, SX.frz, SX.fixB, SX.rootIx, SX.Froz, SX.frzStep, SX.fork, Go.Value.cells, Go.undef, cfg6]
  refine ⟨by (unfold SX.Ob; first | trivial | omega | ((try simp only [SX.inK]); (try simp [SX.den, SX.IsU8, SX.AllP, *]); (try omega))), ?_⟩
  intro a7 w7 hr7' _
  have hr7 := hr6.unbase hr7'
  have hS7 := hS6.keep hr7'.keeps (by simp [frameAt, mutB])
  refine post_call 18 [.v vs, .v (.int .i64 o)] hr7 (by first | exact wanted_none rfl | exact wanted_zero (hr7.env.same rfl rfl rfl rfl) rfl (by simp)) rfl (callable 18 Try.func18) (owned_ok w7 vs S o hS7 (by omega) hB.chk) ?_
  rintro e8 w8 ⟨rfl, hb8⟩
  refine ⟨_, rfl, ?_⟩
  have h8 := hr7.ret hb8 98 (.v (.int .i64 (ownedS o S))) rfl _ (hr7.all.below hb8) (by simp) rfl
  have hS8 := hS7.below hb8
  refine seg cfg6_ok mixed PanicFree.body 1000 [] [] h8.rebase (by first | trivial | exact HpRep.nil | assumption) (by kernel_rfl) fun s_ hs_ => ?_
  simp (maxSteps := 10000000) [SX.vc, SX.stop, SX.contS, SX.contB, SX.contW, SX.contR, SX.contD, SX.sxStep, SX.stepPure, SX.stepNew, SX.stepStore, SX.stepKeep, SX.guardIx, SX.evOp, SX.opd, SX.opds, SX.optOpd, SX.look, SX.putS, SX.gobs, SX.AllP, SX.leave, SX.lookC, SX.lookB, SX.lookT, SX.lookN, SX.findK, SX.evBuiltin, SX.ints, SX.foldI, SX.evBin, SX.evInt, SX.evStr, SX.evEq, SX.arith, SX.evLoad, SX.shapeUp, SX.evFieldAddr, SX.evField, SX.evIndexAddr, SX.evIndex, SX.evFill, SX.evBuild, SX.szs, SX.cellsV, SX.evNew, SX.evStore, SX.spliceL, SX.SV.cells, SX.evConv, SX.evSlice, SX.bnd, SX.evNil, SX.evUn, SX.evPick, SX.pickOpd, SX.popTo, SX.cnd, SX.env0, SX.TD.isAgg, SX.TD.isIface, SX.tails, SX.NotAgg, SX.evLookup, SX.evConvH, SX.evPtrEq, SX.isCells, SX.thaw, SX.frz, SX.fixB, SX.rootIx, SX.Froz, SX.frzStep, SX.fork, Go.Value.cells, Go.undef, cfg6]
  refine ⟨by (unfold SX.Ob; first | trivial | omega | ((try simp only [SX.inK]); (try simp [SX.den, SX.IsU8, SX.AllP, *]); (try omega))), ?_⟩
  intro a9 w9 hr9' _
  have hr9 := h8.unbase hr9'
  have hS9 := hS8.keep hr9'.keeps (by simp [frameAt, mutB])
  refine post_maplen K hr9 (wanted_none rfl) rfl rfl rfl Try.underlying45 hr9.all.1.1 cnod cn3 (by simp) rfl fun a10 hr10 => ?_
  refine seg cfg6_ok mixed PanicFree.body 1000 [] [(102, false)] hr10.rebase (by first | trivial | exact HpRep.nil | assumption) (by kernel_rfl) fun s_ hs_ => ?_
  simp (maxSteps := 10000000) [SX.vc, SX.stop, SX.contS, SX.contB, SX.contW, SX.contR, SX.contD, SX.sxStep, SX.stepPure, SX.stepNew, SX.stepStore, SX.stepKeep, SX.guardIx, SX.evOp, SX.opd, SX.opds, SX.optOpd, SX.look, SX.putS, SX.gobs, SX.AllP, SX.leave, SX.lookC, SX.lookB, SX.lookT, SX.lookN, SX.findK, SX.evBuiltin, SX.ints, SX.foldI, SX.evBin, SX.evInt, SX.evStr, SX.evEq, SX.arith, SX.evLoad, SX.shapeUp, SX.evFieldAddr, SX.evField, SX.evIndexAddr, SX.evIndex, SX.evFill, SX.evBuild, SX.szs, SX.cellsV, SX.evNew, SX.evStore, SX.spliceL, SX.SV.cells, SX.evConv, SX.evSlice, SX.bnd, SX.evNil, SX.evUn, SX.evPick, SX.pickOpd, SX.popTo, SX.cnd, SX.env0, SX.TD.isAgg, SX.TD.isIface, SX.tails, SX.NotAgg, SX.evLookup, SX.evConvH, SX.evPtrEq, SX.isCells, SX.thaw, SX.frz, SX.fixB, SX.rootIx, SX.Froz, SX.frzStep, SX.fork, Go.Value.cells, Go.undef, cfg6, cn1]
  refine ⟨by (unfold SX.Ob; first | trivial | omega | ((try simp only [SX.inK]); (try simp [SX.den, SX.IsU8, SX.AllP, *]); (try omega))), ?_⟩
  intro a11 w11 hr11' _
  have hr11 := hr10.unbase hr11'
  have hS11 := hS9.keep hr11'.keeps (by simp [frameAt, mutB])
  refine post_call 18 [.v vs, .v (.int .i64 (-1))] hr11 (by first | exact wanted_none rfl | exact wanted_zero (hr11.env.same rfl rfl rfl rfl) rfl (by simp)) rfl (callable 18 Try.func18) (owned_ok w11 vs S (-1) hS11 (by omega) hB.chk) ?_
  rintro e12 w12 ⟨rfl, hb12⟩
  refine ⟨_, rfl, ?_⟩
  have h12 := hr11.ret hb12 104 (.v (.int .i64 (ownedS (-1) S))) rfl _ (hr11.all.below hb12) (by simp) rfl
  have hS12 := hS11.below hb12
  refine seg cfg6_ok mixed PanicFree.body 1000 [] [(102, false)] h12.rebase (by first | trivial | exact HpRep.nil | assumption) (by kernel_rfl) fun s_ hs_ => ?_
  simp (maxSteps := 10000000) [SX.vc, SX.stop, SX.contS, SX.contB, SX.contW, SX.contR, SX.contD, SX.sxStep, SX.stepPure, SX.stepNew, SX.stepStore, SX.stepKeep, SX.guardIx, SX.evOp, SX.opd, SX.opds, SX.optOpd, SX.look, SX.putS, SX.gobs, SX.AllP, SX.leave, SX.lookC, SX.lookB, SX.lookT, SX.lookN, SX.findK, SX.evBuiltin, SX.ints, SX.foldI, SX.evBin, SX.evInt, SX.evStr, SX.evEq, SX.arith, SX.evLoad, SX.shapeUp, SX.evFieldAddr, SX.evField, SX.evIndexAddr, SX.evIndex, SX.evFill, SX.evBuild, SX.szs, SX.cellsV, SX.evNew, SX.evStore, SX.spliceL, SX.SV.cells, SX.evConv, SX.evSlice, SX.bnd, SX.evNil, SX.evUn, SX.evPick, SX.pickOpd, SX.popTo, SX.cnd, SX.env0, SX.TD.isAgg, SX.TD.isIface, SX.tails, SX.NotAgg, SX.evLookup, SX.evConvH, SX.evPtrEq, SX.isCells, SX.thaw, SX.frz, SX.fixB, SX.rootIx, SX.Froz, SX.frzStep, SX.fork, Go.Value.cells, Go.undef, cfg6]
  refine ⟨by (unfold SX.Ob; first | trivial | omega | ((try simp only [SX.inK]); (try simp [SX.den, SX.IsU8, SX.AllP, *]); (try omega))), ?_⟩
  intro a13 w13 hr13' _
  have hr13 := h12.unbase hr13'
  have hS13 := hS12.keep hr13'.keeps (by simp [frameAt, mutB])
  refine post_maplen K hr13 (by exact wanted_zero (hr13.env.same rfl rfl rfl rfl) rfl (by simp)) rfl rfl rfl Try.underlying45 hr13.all.1.1 cnod cn3 (by simp) rfl fun a14 hr14 => ?_
  have hob := ownedS_bound o hB.chk.1
  rw [hB.en] at hob
  refine seg cfg6_ok mixed PanicFree.body 1000 [false] [(102, false)] hr14.rebase (by first | trivial | exact HpRep.nil | assumption) (by kernel_rfl) fun s_ hs_ => ?_
  simp (maxSteps := 10000000) [SX.vc, SX.stop, SX.contS, SX.contB, SX.contW, SX.contR, SX.contD, SX.sxStep, SX.stepPure, SX.stepNew, SX.stepStore, SX.stepKeep, SX.guardIx, SX.evOp, SX.opd, SX.opds, SX.optOpd, SX.look, SX.putS, SX.gobs, SX.AllP, SX.leave, SX.lookC, SX.lookB, SX.lookT, SX.lookN, SX.findK, SX.evBuiltin, SX.ints, SX.foldI, SX.evBin, SX.evInt, SX.evStr, SX.evEq, SX.arith, SX.evLoad, SX.shapeUp, SX.evFieldAddr, SX.evField, SX.evIndexAddr, SX.evIndex, SX.evFill, SX.evBuild, SX.szs, SX.cellsV, SX.evNew, SX.evStore, SX.spliceL, SX.SV.cells, SX.evConv, SX.evSlice, SX.bnd, SX.evNil, SX.evUn, SX.evPick, SX.pickOpd, SX.popTo, SX.cnd, SX.env0, SX.TD.isAgg, SX.TD.isIface, SX.tails, SX.NotAgg, SX.evLookup, SX.evConvH, SX.evPtrEq, SX.isCells, SX.thaw, SX.frz, SX.fixB, SX.rootIx, SX.Froz, SX.frzStep, SX.fork, Go.Value.cells, Go.undef, cfg6, cn2]
  refine ⟨by (unfold SX.Ob; first | trivial | omega | ((try simp only [SX.inK]); (try simp [SX.den, SX.IsU8, SX.AllP, *]); (try omega))), ?_⟩
  intro a15 w15 hr15' _
  have hr15 := hr14.unbase hr15'
  have hS15 := hS13.keep hr15'.keeps (by simp [frameAt, mutB])
  have hTO : TakeOK S o := ⟨hB.chk, q8.1, q8.2⟩
  have ht0 : takeE S o = 0 := if_pos hTO
  have hTW : takeW S o = S.filter (ownS o) := if_pos hTO
  have hsum : sumS (takeW S o) = K.length := by rw [hTW, sumS_own, cn1]
  have hWm : ∀ s ∈ takeW S o, (s.fr < s.to ∧ 0 ≤ s.fr ∧ s.to ≤ endS 0 S) ∧ s.ow = o ∧ s ∈ S := fun s hs => by
    rw [hTW] at hs
    obtain ⟨h1, h2⟩ := List.mem_filter.1 hs
    exact ⟨mem_chk hB.chk h1, by simpa [ownS] using h2, h1⟩
  have lW := takeW_len S o
  refine post_call 17 [.v vs, .v (.int .i64 o)] hr15 (by first | exact wanted_none rfl | exact wanted_zero (hr15.env.same rfl rfl rfl rfl) rfl (by simp)) rfl (callable 17 Try.func17) (Take_ok w15 vs S o hS15 (by omega)) ?_
  rintro e16 w16 ⟨vn, vw, rfl, hN16, hW16, hb16⟩
  refine ⟨_, rfl, ?_⟩
  have h16 := hr15.ret hb16 114 (.tu [.v vn, .v vw, .v (.int .i64 (takeE S o))]) rfl _ (hr15.all.below hb16) (by simp) rfl
  rw [hbt] at hN16
  obtain ⟨W, hWd⟩ : ∃ W, takeW S o = W := ⟨_, rfl⟩
  rw [hWd] at hsum hWm lW hW16
  have hcH15 := SO.rep_lt hr15.all.1.1
  obtain ⟨adw, cpw, rfl⟩ := hW16.slice
  refine seg cfg6_ok mixed PanicFree.body 1000 [] [] h16.rebase (by first | trivial | exact HpRep.nil | assumption) (by kernel_rfl) fun s_ hs_ => ?_
  simp (maxSteps := 10000000) [SX.vc, SX.stop, SX.contS, SX.contB, SX.contW, SX.contR, SX.contD, SX.sxStep, SX.stepPure, SX.stepNew, SX.stepStore, SX.stepKeep, SX.guardIx, SX.evOp, SX.opd, SX.opds, SX.optOpd, SX.look, SX.putS, SX.gobs, SX.AllP, SX.leave, SX.lookC, SX.lookB, SX.lookT, SX.lookN, SX.findK, SX.evBuiltin, SX.ints, SX.foldI, SX.evBin, SX.evInt, SX.evStr, SX.evEq, SX.arith, SX.evLoad, SX.shapeUp, SX.evFieldAddr, SX.evField, SX.evIndexAddr, SX.evIndex, SX.evFill, SX.evBuild, SX.szs, SX.cellsV, SX.evNew, SX.evStore, SX.spliceL, SX.SV.cells, SX.evConv, SX.evSlice, SX.bnd, SX.evNil, SX.evUn, SX.evPick, SX.pickOpd, SX.popTo, SX.cnd, SX.env0, SX.TD.isAgg, SX.TD.isIface, SX.tails, SX.NotAgg, SX.evLookup, SX.evConvH, SX.evPtrEq, SX.isCells, SX.thaw, SX.frz, SX.fixB, SX.rootIx, SX.Froz, SX.frzStep, SX.fork, Go.Value.cells, Go.undef, cfg6, ht0]
  refine ⟨by (unfold SX.Ob; first | trivial | omega | ((try simp only [SX.inK]); (try simp [SX.den, SX.IsU8, SX.AllP, *]); (try omega))), ?_⟩
  intro a17 w17 hr17' _
  have hr17 := h16.unbase hr17'
  have hN17 := (hN16.mono (P' := fun x => x ≠ cH) fun x _ h => by omega).keep hr17'.keeps (by simp [frameAt, mutB])
  have hW17 := (hW16.mono (P' := fun x => x ≠ cH) fun x _ h => by omega).keep hr17'.keeps (by simp [frameAt, mutB])
  have hcH17 := SO.rep_lt hr17.all.1.1
  refine post_call 9 [.v (.int .i64 n)] hr17 (by first | exact wanted_none rfl | exact wanted_zero (hr17.env.same rfl rfl rfl rfl) rfl (by simp)) rfl (callable 9 Try.func9) (New_good w17 n (by omega) (by omega)) ?_
  rintro e18 w18 ⟨v18, rfl, hL18, hb18⟩
  refine ⟨_, rfl, ?_⟩
  have h18 := hr17.ret hb18 120 (.tu [.v v18, .v (.int .i64 0)]) rfl _ (hr17.all.below hb18) (by simp) rfl
  have hN18 := hN17.below hb18
  have hW18 := hW17.below hb18
  refine seg cfg6_ok mixed PanicFree.body 1000 [] [(125, false), (129, false)] h18.rebase (by first | trivial | exact HpRep.nil | assumption) (by kernel_rfl) fun s_ hs_ => ?_
  simp (maxSteps := 10000000) [SX.vc, SX.stop, SX.contS, SX.contB, SX.contW, SX.contR, SX.contD, SX.sxStep, SX.stepPure, SX.stepNew, SX.stepStore, SX.stepKeep, SX.guardIx, SX.evOp, SX.opd, SX.opds, SX.optOpd, SX.look, SX.putS, SX.gobs, SX.AllP, SX.leave, SX.lookC, SX.lookB, SX.lookT, SX.lookN, SX.findK, SX.evBuiltin, SX.ints, SX.foldI, SX.evBin, SX.evInt, SX.evStr, SX.evEq, SX.arith, SX.evLoad, SX.shapeUp, SX.evFieldAddr, SX.evField, SX.evIndexAddr, SX.evIndex, SX.evFill, SX.evBuild, SX.szs, SX.cellsV, SX.evNew, SX.evStore, SX.spliceL, SX.SV.cells, SX.evConv, SX.evSlice, SX.bnd, SX.evNil, SX.evUn, SX.evPick, SX.pickOpd, SX.popTo, SX.cnd, SX.env0, SX.TD.isAgg, SX.TD.isIface, SX.tails, SX.NotAgg, SX.evLookup, SX.evConvH, SX.evPtrEq, SX.isCells, SX.thaw, SX.frz, SX.fixB, SX.rootIx, SX.Froz, SX.frzStep, SX.fork, Go.Value.cells, Go.undef, cfg6]
  refine ⟨by (unfold SX.Ob; first | trivial | omega | ((try simp only [SX.inK]); (try simp [SX.den, SX.IsU8, SX.AllP, *]); (try omega))), ?_⟩
  intro a19 w19 hr19' _
  have hr19 := h18.unbase hr19'
  have hN19 := hN18.keep hr19'.keeps (by simp [frameAt, mutB])
  have hW19 := hW18.keep hr19'.keeps (by simp [frameAt, mutB])
  have hL19 := (hL18.mono (P' := fun x => x ≠ cH) fun x _ h => by omega).keep hr19'.keeps (by simp [frameAt, mutB])
  refine post_call 13 [.v vn, .v v18] hr19 (by first | exact wanted_none rfl | exact wanted_zero (hr19.env.same rfl rfl rfl rfl) rfl (by simp)) rfl (callable 13 Try.func13) (same_ok w19 vn v18 _ _ hN19 hL19 (by simp)) ?_
  rintro e20 w20 ⟨rfl, hb20⟩
  refine ⟨_, rfl, ?_⟩
  have h20 := hr19.ret hb20 132 (.v (.bool (decide (([⟨0, n, -1, 0⟩] : List Spn) = [⟨0, n, -1, 0⟩])))) rfl _ (hr19.all.below hb20) (by simp) rfl
  have hW20 := hW19.below hb20
  refine seg cfg6_ok mixed PanicFree.body 1000 [false] [(125, false), (129, false)] h20.rebase (by first | trivial | exact HpRep.nil | assumption) (by kernel_rfl) fun s_ hs_ => ?_
  simp (maxSteps := 10000000) [SX.vc, SX.stop, SX.contS, SX.contB, SX.contW, SX.contR, SX.contD, SX.sxStep, SX.stepPure, SX.stepNew, SX.stepStore, SX.stepKeep, SX.guardIx, SX.evOp, SX.opd, SX.opds, SX.optOpd, SX.look, SX.putS, SX.gobs, SX.AllP, SX.leave, SX.lookC, SX.lookB, SX.lookT, SX.lookN, SX.findK, SX.evBuiltin, SX.ints, SX.foldI, SX.evBin, SX.evInt, SX.evStr, SX.evEq, SX.arith, SX.evLoad, SX.shapeUp, SX.evFieldAddr, SX.evField, SX.evIndexAddr, SX.evIndex, SX.evFill, SX.evBuild, SX.szs, SX.cellsV, SX.evNew, SX.evStore, SX.spliceL, SX.SV.cells, SX.evConv, SX.evSlice, SX.bnd, SX.evNil, SX.evUn, SX.evPick, SX.pickOpd, SX.popTo, SX.cnd, SX.env0, SX.TD.isAgg, SX.TD.isIface, SX.tails, SX.NotAgg, SX.evLookup, SX.evConvH, SX.evPtrEq, SX.isCells, SX.thaw, SX.frz, SX.fixB, SX.rootIx, SX.Froz, SX.frzStep, SX.fork, Go.Value.cells, Go.undef, cfg6]
  refine ⟨by (unfold SX.Ob; first | trivial | omega | ((try simp only [SX.inK]); (try simp [SX.den, SX.IsU8, SX.AllP, *]); (try omega))), ?_⟩
  intro a21 w21 hr21' _
  have hr21 := h20.unbase hr21'
  have hW21 := hW20.keep hr21'.keeps (by simp [frameAt, mutB])
  refine post_loop (B3Loop w W (.slice adw W.length cpw) o cH H) W.length ⟨0, rfl, by omega, hW21, hr21.re (by simp [envTo, SX.look, den, sumS]) hr21.all rfl rfl⟩ ?_
  rintro m a22 w22 ⟨k, rfl, hk, hW22, hr22⟩
  have hmp2 := hr22.all.1
  by_cases hlt : k < W.length
  · obtain ⟨b, o0', cap, u, fz, hP, hv, hrep⟩ := hW22.opn hlt
    cases hv
    have hbw := SO.rep_lt hrep
    obtain ⟨x, hx⟩ : ∃ x, nth spn0 W k = x := ⟨_, rfl⟩
    obtain ⟨hx1, hx2, hx3⟩ := hWm x (hx ▸ nth_mem hlt)
    have hen := hB.en
    rw [hen] at hx1
    have s1 := sumS_take (fun s hs => (hWm s hs).1.1) k
    have s2 := sumS_take (fun s hs => (hWm s hs).1.1) (k + 1)
    have s3 : sumS (W.take (k + 1)) = sumS (W.take k) + (x.to - x.fr) := by
      rw [take_nth (d := spn0) hlt, sumS_append, hx]
      simp [sumS]
    obtain ⟨p, hp⟩ : ∃ p, sumS (W.take k) = p := ⟨_, rfl⟩
    rw [hp] at hr22 s1 s3
    have h23 := (hr22.top 135 (.sl 1 b o0' 0 W.length cpw 4) rfl (by simp [den])).see [(cH, true, .imap (hasM H)), (b, false, .arr o0' W.length (fun j => spnC (nth spn0 W j)) 4 u fz)] ⟨⟨hmp2.1, hmp2.2.1, by simp; omega⟩, HpAll.one hrep⟩
    refine seg cfg6_ok mixed PanicFree.body 1000 [true] [] h23.rebase (by first | trivial | exact HpRep.nil | assumption) (by kernel_rfl) fun sX hsX => ?_
    simp (maxSteps := 10000000) [SX.vc, SX.stop, SX.contS, SX.contB, SX.contW, SX.contR, SX.contD, SX.sxStep, SX.stepPure, SX.stepNew, SX.stepStore, SX.stepKeep, SX.guardIx, SX.evOp, SX.opd, SX.opds, SX.optOpd, SX.look, SX.putS, SX.gobs, SX.AllP, SX.leave, SX.lookC, SX.lookB, SX.lookT, SX.lookN, SX.findK, SX.evBuiltin, SX.ints, SX.foldI, SX.evBin, SX.evInt, SX.evStr, SX.evEq, SX.arith, SX.evLoad, SX.shapeUp, SX.evFieldAddr, SX.evField, SX.evIndexAddr, SX.evIndex, SX.evFill, SX.evBuild, SX.szs, SX.cellsV, SX.evNew, SX.evStore, SX.spliceL, SX.SV.cells, SX.evConv, SX.evSlice, SX.bnd, SX.evNil, SX.evUn, SX.evPick, SX.pickOpd, SX.popTo, SX.cnd, SX.env0, SX.TD.isAgg, SX.TD.isIface, SX.tails, SX.NotAgg, SX.evLookup, SX.evConvH, SX.evPtrEq, SX.isCells, SX.thaw, SX.frz, SX.fixB, SX.rootIx, SX.Froz, SX.frzStep, SX.fork, Go.Value.cells, Go.undef, cfg6, spnC, hx]
    refine ⟨by (unfold SX.Ob; first | trivial | omega | ((try simp only [SX.inK]); (try simp [SX.den, SX.IsU8, SX.AllP, *]); (try omega))), ?_⟩
    intro a24 w24 hr24' _
    have hr24 := h23.unbase hr24'
    have hA24 := hr24.all
    have hsX : w22.heap.size ≤ sX := by
      rcases hr24'.all.2.2.1.2.1 rfl with h | h
      · exact h
      · have := SO.rep_lt hmp2.1
        simp [frameAt, mutB] at h
        have h' := hr24.all.2.1
        omega
    have hKn : (K.length : Int) ≤ n := by omega
    have hcH22 := SO.rep_lt hmp2.1
    have hW24 := (hW22.mono (P' := fun z => z ≠ cH ∧ z < w22.heap.size) fun z h1 h2 => ⟨h2, h1⟩).keep hr24'.keeps (by simp [frameAt, mutB])
    have hW24' := hW24.mono (P' := fun z => z ≠ cH ∧ z ≠ sX) fun z _ h => ⟨h.1, by have := h.2; omega⟩
    have h25 := (hr24.top 25 (.ptr 1 sX 0) rfl (by simp [den])).see [(cH, true, .imap (hasM H)), (sX, true, .cells (spnC x) 35)] ⟨⟨hA24.1.1, hA24.1.2.1, by simp; omega⟩, ⟨hA24.2.2.1.1, hA24.2.2.1.2.1, by simp⟩, trivial⟩
    refine post_loop (B4Loop w W (.slice (some ⟨b, o0', none⟩) W.length cpw) o cH k H x p sX) (x.to - x.fr).toNat ⟨0, rfl, by omega, hW24', h25.re (by simp [envTo, SX.look, den]) h25.all rfl rfl⟩ ?_
    rintro m a26 w26 ⟨j, rfl, hj, hW26, hr26⟩
    by_cases hltj : j < (x.to - x.fr).toNat
    · have hjt : x.fr + (j : Int) < x.to := by omega
      have hHb : H (x.fr + j) = true := (hB.has _).2 ⟨(x.ow, x.ep), ⟨x, hx3, ⟨by omega, hjt⟩, rfl⟩, hx2⟩
      have hlk : hasM H (x.fr + j) = some (.v (.bool true)) := if_pos hHb
      refine seg cfg6_ok mixed PanicFree.body 1000 [true, false] [(153, false)] hr26.rebase (by first | trivial | exact HpRep.nil | assumption) (by kernel_rfl) fun s_ hs_ => ?_
      simp (maxSteps := 10000000) [SX.vc, SX.stop, SX.contS, SX.contB, SX.contW, SX.contR, SX.contD, SX.sxStep, SX.stepPure, SX.stepNew, SX.stepStore, SX.stepKeep, SX.guardIx, SX.evOp, SX.opd, SX.opds, SX.optOpd, SX.look, SX.putS, SX.gobs, SX.AllP, SX.leave, SX.lookC, SX.lookB, SX.lookT, SX.lookN, SX.findK, SX.evBuiltin, SX.ints, SX.foldI, SX.evBin, SX.evInt, SX.evStr, SX.evEq, SX.arith, SX.evLoad, SX.shapeUp, SX.evFieldAddr, SX.evField, SX.evIndexAddr, SX.evIndex, SX.evFill, SX.evBuild, SX.szs, SX.cellsV, SX.evNew, SX.evStore, SX.spliceL, SX.SV.cells, SX.evConv, SX.evSlice, SX.bnd, SX.evNil, SX.evUn, SX.evPick, SX.pickOpd, SX.popTo, SX.cnd, SX.env0, SX.TD.isAgg, SX.TD.isIface, SX.tails, SX.NotAgg, SX.evLookup, SX.evConvH, SX.evPtrEq, SX.isCells, SX.thaw, SX.frz, SX.fixB, SX.rootIx, SX.Froz, SX.frzStep, SX.fork, Go.Value.cells, Go.undef, cfg6, spnC, hjt, hlk, hx2]
      refine ⟨by (unfold SX.Ob; first | trivial | omega | ((try simp only [SX.inK]); (try simp [SX.den, SX.IsU8, SX.AllP, *]); (try omega))), ?_⟩
      intro a27 w27 hr27' _
      have hr27 := hr26.unbase hr27'
      exact post_rnd ((x.to - x.fr).toNat - (j + 1)) (by omega) ⟨j + 1, rfl, hltj, hW26.keep hr27'.keeps (by simp [frameAt, mutB]), hr27.re (by simp [envTo, SX.look, den]; exact ⟨Int.add_assoc _ _ _, Int.add_assoc _ _ _⟩) (by simpa [spnC, hx2] using hr27.all) rfl rfl⟩
    · obtain rfl : j = (x.to - x.fr).toNat := by omega
      have hjt : ¬ x.fr + ((x.to - x.fr).toNat : Int) < x.to := by omega
      have hps : p + ((x.to - x.fr).toNat : Int) = sumS (W.take (k + 1)) := by omega
      rw [hps] at hr26
      refine seg cfg6_ok mixed PanicFree.body 1000 [false] [] hr26.rebase (by first | trivial | exact HpRep.nil | assumption) (by kernel_rfl) fun s_ hs_ => ?_
      simp (maxSteps := 10000000) [SX.vc, SX.stop, SX.contS, SX.contB, SX.contW, SX.contR, SX.contD, SX.sxStep, SX.stepPure, SX.stepNew, SX.stepStore, SX.stepKeep, SX.guardIx, SX.evOp, SX.opd, SX.opds, SX.optOpd, SX.look, SX.putS, SX.gobs, SX.AllP, SX.leave, SX.lookC, SX.lookB, SX.lookT, SX.lookN, SX.findK, SX.evBuiltin, SX.ints, SX.foldI, SX.evBin, SX.evInt, SX.evStr, SX.evEq, SX.arith, SX.evLoad, SX.shapeUp, SX.evFieldAddr, SX.evField, SX.evIndexAddr, SX.evIndex, SX.evFill, SX.evBuild, SX.szs, SX.cellsV, SX.evNew, SX.evStore, SX.spliceL, SX.SV.cells, SX.evConv, SX.evSlice, SX.bnd, SX.evNil, SX.evUn, SX.evPick, SX.pickOpd, SX.popTo, SX.cnd, SX.env0, SX.TD.isAgg, SX.TD.isIface, SX.tails, SX.NotAgg, SX.evLookup, SX.evConvH, SX.evPtrEq, SX.isCells, SX.thaw, SX.frz, SX.fixB, SX.rootIx, SX.Froz, SX.frzStep, SX.fork, Go.Value.cells, Go.undef, cfg6, spnC, hjt]
      refine ⟨by (unfold SX.Ob; first | trivial | omega | ((try simp only [SX.inK]); (try simp [SX.den, SX.IsU8, SX.AllP, *]); (try omega))), ?_⟩
      intro a27 w27 hr27' _
      have hr27 := hr26.unbase hr27'
      exact post_rnd (W.length - (k + 1)) (by omega) ⟨k + 1, rfl, hlt, (hW26.keep hr27'.keeps (by simp [frameAt, mutB])).mono fun z _ h => h.1, hr27.re (by simp [envTo, SX.look, den]) (hr27.all.take 1) rfl rfl⟩
  · obtain rfl : k = W.length := by omega
    rw [List.take_length, hsum] at hr22
    refine seg cfg6_ok mixed PanicFree.body 1000 [false] [(163, true)] hr22 (by first | trivial | exact HpRep.nil | assumption) (by kernel_rfl) fun s_ hs_ => ?_
    simp (maxSteps := 10000000) [SX.vc, SX.stop, SX.contS, SX.contB, SX.contW, SX.contR, SX.contD, SX.sxStep, SX.stepPure, SX.stepNew, SX.stepStore, SX.stepKeep, SX.guardIx, SX.evOp, SX.opd, SX.opds, SX.optOpd, SX.look, SX.putS, SX.gobs, SX.AllP, SX.leave, SX.lookC, SX.lookB, SX.lookT, SX.lookN, SX.findK, SX.evBuiltin, SX.ints, SX.foldI, SX.evBin, SX.evInt, SX.evStr, SX.evEq, SX.arith, SX.evLoad, SX.shapeUp, SX.evFieldAddr, SX.evField, SX.evIndexAddr, SX.evIndex, SX.evFill, SX.evBuild, SX.szs, SX.cellsV, SX.evNew, SX.evStore, SX.spliceL, SX.SV.cells, SX.evConv, SX.evSlice, SX.bnd, SX.evNil, SX.evUn, SX.evPick, SX.pickOpd, SX.popTo, SX.cnd, SX.env0, SX.TD.isAgg, SX.TD.isIface, SX.tails, SX.NotAgg, SX.evLookup, SX.evConvH, SX.evPtrEq, SX.isCells, SX.thaw, SX.frz, SX.fixB, SX.rootIx, SX.Froz, SX.frzStep, SX.fork, Go.Value.cells, Go.undef, cfg6]
    refine ⟨by (unfold SX.Ob; first | trivial | omega | ((try simp only [SX.inK]); (try simp [SX.den, SX.IsU8, SX.AllP, *]); (try omega))), ?_⟩
    intro a23 w23 hr23 _
    refine post_maplen K hr23 (by exact wanted_zero (hr23.env.same rfl rfl rfl rfl) rfl (by simp)) rfl rfl rfl Try.underlying45 hr23.all.1.1 cnod cn3 (by simp) rfl fun a24 hr24 => ?_
    refine seg cfg6_ok mixed PanicFree.body 1000 [] [(163, true)] hr24 (by first | trivial | exact HpRep.nil | assumption) (by kernel_rfl) fun s_ hs_ => ?_
    simp (maxSteps := 10000000) [SX.vc, SX.stop, SX.contS, SX.contB, SX.contW, SX.contR, SX.contD, SX.sxStep, SX.stepPure, SX.stepNew, SX.stepStore, SX.stepKeep, SX.guardIx, SX.evOp, SX.opd, SX.opds, SX.optOpd, SX.look, SX.putS, SX.gobs, SX.AllP, SX.leave, SX.lookC, SX.lookB, SX.lookT, SX.lookN, SX.findK, SX.evBuiltin, SX.ints, SX.foldI, SX.evBin, SX.evInt, SX.evStr, SX.evEq, SX.arith, SX.evLoad, SX.shapeUp, SX.evFieldAddr, SX.evField, SX.evIndexAddr, SX.evIndex, SX.evFill, SX.evBuild, SX.szs, SX.cellsV, SX.evNew, SX.evStore, SX.spliceL, SX.SV.cells, SX.evConv, SX.evSlice, SX.bnd, SX.evNil, SX.evUn, SX.evPick, SX.pickOpd, SX.popTo, SX.cnd, SX.env0, SX.TD.isAgg, SX.TD.isIface, SX.tails, SX.NotAgg, SX.evLookup, SX.evConvH, SX.evPtrEq, SX.isCells, SX.thaw, SX.frz, SX.fixB, SX.rootIx, SX.Froz, SX.frzStep, SX.fork, Go.Value.cells, Go.undef, cfg6]
    refine ⟨by (unfold SX.Ob; first | trivial | omega | ((try simp only [SX.inK]); (try simp [SX.den, SX.IsU8, SX.AllP, *]); (try omega))), ?_⟩
    intro a25 w25 hr25 _
    exact post_retn (end1 hr25 rfl rfl ⟨by simp [den], hr25.keeps.toBelow⟩).1
end Go.Proofs
