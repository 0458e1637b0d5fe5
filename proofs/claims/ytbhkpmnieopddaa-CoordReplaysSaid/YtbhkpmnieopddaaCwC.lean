/- CwC: texts of this proof, joined. -/
import Derived.Test.YtbhkpmnieopddaaCwB
set_option linter.unusedVariables false
set_option linter.unusedSimpArgs false
set_option linter.unusedSectionVars false
namespace Go.Proofs.C8
open Go Go.Proofs Go.SX Go.RowKit Go.Proofs.L6
theorem post_indexA {P : Program} {C : Cfg} (htt : TTok P C.tt) {Q : Exit → Act → World → Prop} {F : Fr} {st : St} {all : Array Oper} {o : Oper} {l : List Oper} {ks : List W} {a : Act} {w : World} {d n et k : Nat} {xt : TypeId} {xo io : Operand} {L : List SV} {ti te : TI} {y : SV}
    (hr : RepX F st a w) (hw : o.guard = none) (hd : o.dst = some d) (hop : o.op = .index xt xo io) (hx : opd st 0 xo = some (.ag L)) (hi : opd st 0 io = some (.v (.int .i64 k))) (ht : lookT C.tt xt = some ti) (hdt : ti.d = .arr n et) (he : lookT C.tt et = some te)
    (hkn : k < n) (hs : shapeUp te.d.isAgg te.sz ((L.drop (k * te.sz)).take te.sz) = some y) (hdn : d < st.nt) (hks : st.ks.all (fun r => r.tj != d) = true)
    (hn : ∀ a', RepX F { st with env := (d, 0, y) :: st.env } a' w → post P Q (.ops all l :: ks) .normal a' w) : post P Q (.ops all (o :: l) :: ks) .normal a w := by
  have hh := hr.env.same (st' := st) rfl rfl rfl rfl
  have h1 := shapeUp_part (htt _ _ he) hs w
  refine post_step (v := den y) (w' := w) hw ?_ ?_
  · simp only [execOp, hop, opd_sound hh rfl hx, opd_sound hh rfl hi, den]
    have hk0 : (0 : Int) ≤ k ∧ (k : Int) < n := by omega
    simp only [Instr.index, asIntOf, Sem.run_bind, Sem.run_pure, Result.andThen_ok, run_underlying ((htt _ _ ht).arr hdt), if_pos hk0, run_sizeOf' (htt _ _ he), Int.toNat_natCast, h1]
  · rw [hd]
    exact hn _ (hr.retK (KeepsTo.refl w []) (by simp) d y rfl st.hp hr.all hdn hks)
def evL (e : Evt) : List Int := [e.d, e.h, e.z, e.e, e.fr, e.to, e.now, e.key]
def ptrs (i b : Nat) : List SV := [.ptr i b 0, .ptr i b 1, .ptr i b 2, .ptr i b 3, .ptr i b 4, .ptr i b 5, .ptr i b 6, .ptr i b 7]
set_option maxRecDepth 100000 in
set_option maxHeartbeats 16000000 in
theorem fields_ok (w : World) (b : Nat) (e : Evt) (hb : (SO.cells (evC e) 47).rep w b) : Calls Try.prog 36 (denL [.ptr 0 b 0]).toArray w (Ret w (.ag (ptrs 0 b))) := by
  refine enter (F := frame0 w) Try.func36 rfl [.ptr 0 b 0] [(b, false, .cells (evC e) 47)] (by simp [Try.f36]) (HpAll.one hb) (keeps0 w) fun a hr => ?_
  refine seg cfg36_ok mixed PanicFree.body 1000 [] [] hr (by first | trivial | exact HpRep.nil | assumption) (by kernel_rfl) fun s_ hs_ => ?_
  simp (maxSteps := 10000000) [SX.vc, SX.stop, SX.contS, SX.contR, SX.contD, SX.sxStep, SX.stepPure, SX.stepNew, SX.stepStore, SX.guardIx, SX.evOp, SX.opd, SX.opds, SX.look, SX.putS, SX.gobs, SX.AllP, SX.leave, SX.lookT, SX.lookN, SX.evFieldAddr, SX.evFill, SX.evBuild, SX.cellsV, SX.evNew, SX.evStore, SX.spliceL, SX.SV.cells, SX.evNil, SX.env0, SX.tails, SX.NotAgg, SX.thaw, SX.frz, SX.Froz, SX.frzStep, Go.Value.cells, cfg36, Try.f36, evC]
  refine ⟨by (unfold SX.Ob; first | trivial | omega | ((try simp only [SX.inK]); (try simp [SX.den, SX.IsU8, SX.AllP, *]); (try omega))), ?_⟩
  intro a1 w1 hr1 _
  exact post_retn (endC1 hr1 rfl rfl rfl tok84 rfl ⟨rfl, hr1.keeps.toBelow⟩).1
def wr (e : Evt) : List Nat := putAll (evL e)
def okE (e : Evt) : Prop := ∀ x ∈ evL e, 0 ≤ x
instance (e : Evt) : Decidable (okE e) := by unfold okE; infer_instance
def WriteR (w : World) (e : Evt) (ev : Ending) (w' : World) : Prop :=
  ∃ v, Below w.heap.size w w' ∧ ((okE e ∧ ev = .returned (den (.tu [.v v, .v (.int .i64 0)])) ∧ OwU (fun x => w.heap.size ≤ x) w' v (wr e)) ∨ (¬ okE e ∧ ev = .returned (den (.tu [.v (.slice none 0 0), .v (.int .i64 1)]))))
def WrLoop (w : World) (sE : Nat) (e : Evt) (m : Nat) (a : Act) (w' : World) : Prop :=
  ∃ (k : Nat) (v : Value), m = 8 - k ∧ k ≤ 8 ∧ OwI (fun x => w.heap.size ≤ x ∧ x ≠ sE) w' v ((evL e).take k) ∧
    RepX (frame0 w) ⟨[(8, 0, .v (.int .i64 k)), (7, 0, .ag (ptrs 0 sE)), (4, 0, .v v), (2, 0, .v (.slice none 0 0)), (3, 0, .v (.int .i64 0))], [(sE, true, .cells (evC e) 47)], 0, 0, 22, [], [], []⟩ a w'
set_option maxRecDepth 100000 in
set_option maxHeartbeats 64000000 in
theorem write_ok (w : World) (e : Evt) (hb : ∀ x ∈ evL e, x ≤ 9223372036854775807) : Calls Try.prog 18 (denL [.ag (evC e)]).toArray w (WriteR w e) := by
  refine enter (F := frame0 w) Try.func18 rfl [.ag (evC e)] [] (by simp [Try.f18]) trivial (keeps0 w) fun a hr => ?_
  refine seg cfg18_ok mixed PanicFree.body 1000 [] [] hr (by first | trivial | exact HpRep.nil | assumption) (by kernel_rfl) fun sE hsE => ?_
  simp (maxSteps := 10000000) [SX.vc, SX.stop, SX.contS, SX.sxStep, SX.stepPure, SX.stepNew, SX.stepStore, SX.guardIx, SX.evOp, SX.opd, SX.look, SX.putS, SX.gobs, SX.AllP, SX.leave, SX.evNew, SX.evStore, SX.SV.cells, SX.env0, cfg18, Try.f18, evC]
  refine ⟨by (unfold SX.Ob; first | trivial | omega | ((try simp only [SX.inK]); (try simp [SX.den, SX.IsU8, SX.AllP, *]); (try omega))), ?_⟩
  intro a1 w1 hr1 _
  have q1 := hpLt hr1.all
  simp at q1
  have z1 : w.heap.size ≤ w1.heap.size := hr1.keeps.size
  refine post_call 36 [.ptr 0 sE 0] hr1 (by first | exact wanted_none rfl | exact wanted_zero (hr1.env.same rfl rfl rfl rfl) rfl (by simp) | exact wanted_zero (hr1.env.same rfl rfl rfl rfl) rfl (by simp [*])) rfl (callable 36 Try.func36) (fields_ok w1 sE e hr1.all.1.1) ?_
  rintro e2 w2 ⟨rfl, hb2⟩
  refine ⟨_, rfl, ?_⟩
  have h2 := hr1.ret hb2 7 (.ag (ptrs 0 sE)) rfl _ (hr1.all.below hb2) (by simp) rfl
  refine seg cfg18_ok mixed PanicFree.body 1000 [] [] h2.rebase (by first | trivial | exact HpRep.nil | assumption) (by kernel_rfl) fun s_ hs_ => ?_
  simp (maxSteps := 10000000) [SX.vc, SX.stop, SX.contS, SX.sxStep, SX.stepPure, SX.guardIx, SX.evOp, SX.opd, SX.putS, SX.gobs, SX.AllP, SX.leave, cfg18]
  refine ⟨by (unfold SX.Ob; first | trivial | omega | ((try simp only [SX.inK]); (try simp [SX.den, SX.IsU8, SX.AllP, *]); (try omega))), ?_⟩
  intro a3 w3 hr3' _
  have hr3 := h2.unbase hr3'
  refine post_loop (WrLoop w sE e) 8 ⟨0, .slice none 0 0, rfl, by omega, OwS.nil, hr3.re (by simp [envTo, SX.look]) hr3.all rfl rfl⟩ ?_
  rintro m a4 w4 ⟨k, v, rfl, hk, hO, hr4⟩
  obtain ⟨av, cv, rfl⟩ := hO.slice
  have q4 := hpLt hr4.all
  simp at q4
  have z4 : w.heap.size ≤ w4.heap.size := hr4.keeps.size
  by_cases hlt : k < 8
  rotate_left
  · obtain rfl : k = 8 := by omega
    refine seg cfg18_ok mixed PanicFree.body 1000 [false] [] hr4.rebase (by first | trivial | exact HpRep.nil | assumption) (by kernel_rfl) fun s_ hs_ => ?_
    simp (maxSteps := 10000000) [SX.vc, SX.stop, SX.contS, SX.contB, SX.contW, SX.sxStep, SX.stepPure, SX.stepNew, SX.stepStore, SX.guardIx, SX.evOp, SX.opd, SX.look, SX.putS, SX.gobs, SX.AllP, SX.leave, SX.evBin, SX.evInt, SX.evNew, SX.evStore, SX.popTo, cfg18]
    refine ⟨by (unfold SX.Ob; first | trivial | omega | ((try simp only [SX.inK]); (try simp [SX.den, SX.IsU8, SX.AllP, *]); (try omega))), ?_⟩
    intro a5 w5 hr5' _
    have hr5 := hr4.unbase hr5'
    have hO5 : OwI (fun x => w.heap.size ≤ x ∧ x ≠ sE) w5 (.slice av 8 cv) (evL e) := hO.keep hr5'.keeps (by simp [mutB])
    have z45 : w4.heap.size ≤ w5.heap.size := hr5'.keeps.size
    refine post_call 37 [.v (.slice av 8 cv)] hr5 (wanted_none rfl) rfl (callable 37 Try.func37) (nums_ok w5 _ (evL e) hO5.rd (by simp [evL]) hb) ?_
    have z5 : w.heap.size ≤ w5.heap.size := hr5.keeps.size
    rintro e6 w6 ⟨v6, hb6, ⟨hpos, rfl, hO6⟩ | ⟨hneg, rfl⟩⟩
    · obtain ⟨a6', c6, rfl⟩ := hO6.slice
      refine ⟨_, rfl, ?_⟩
      have hr6 := hr5.ret hb6 19 (.tu [.v (.slice a6' (putAll (evL e)).length c6), .v (.int .i64 0)]) rfl _ (hr5.all.below hb6) (by simp) rfl
      refine seg cfg18_ok mixed PanicFree.body 1000 [] [] hr6.rebase (by first | trivial | exact HpRep.nil | assumption) (by kernel_rfl) fun s_ hs_ => ?_
      simp (maxSteps := 10000000) [SX.vc, SX.stop, SX.contS, SX.sxStep, SX.stepPure, SX.guardIx, SX.evOp, SX.opd, SX.look, SX.putS, SX.gobs, SX.AllP, SX.leave, cfg18]
      refine ⟨by (unfold SX.Ob; first | trivial | omega | ((try simp only [SX.inK]); (try simp [SX.den, SX.IsU8, SX.AllP, *]); (try omega))), ?_⟩
      intro a7 w7 hr7' _
      have hr7 := hr6.unbase hr7'
      exact post_retn (end2 hr7 rfl rfl rfl ⟨_, hr7.keeps.toBelow, .inl ⟨hpos, rfl, (hO6.keep hr7'.keeps (by simp [mutB]; omega)).mono fun x _ h => by omega⟩⟩).1
    · refine ⟨_, rfl, ?_⟩
      have hr6 := hr5.ret hb6 19 (.tu [.v (.slice none 0 0), .v (.int .i64 1)]) rfl _ (hr5.all.below hb6) (by simp) rfl
      refine seg cfg18_ok mixed PanicFree.body 1000 [] [] hr6 (by first | trivial | exact HpRep.nil | assumption) (by kernel_rfl) fun s_ hs_ => ?_
      simp (maxSteps := 10000000) [SX.vc, SX.stop, SX.contS, SX.sxStep, SX.stepPure, SX.guardIx, SX.evOp, SX.opd, SX.look, SX.putS, SX.gobs, SX.AllP, SX.leave, cfg18]
      refine ⟨by (unfold SX.Ob; first | trivial | omega | ((try simp only [SX.inK]); (try simp [SX.den, SX.IsU8, SX.AllP, *]); (try omega))), ?_⟩
      intro a7 w7 hr7 _
      exact post_retn (end2 hr7 rfl rfl rfl ⟨.slice none 0 0, hr7.keeps.toBelow, .inr ⟨hneg, rfl⟩⟩).1
  have hkc : k = 0 ∨ k = 1 ∨ k = 2 ∨ k = 3 ∨ k = 4 ∨ k = 5 ∨ k = 6 ∨ k = 7 := by omega
  rcases hkc with rfl | rfl | rfl | rfl | rfl | rfl | rfl | rfl
  · refine seg cfg18_ok mixed PanicFree.body 1000 [true] [] hr4.rebase (by first | trivial | exact HpRep.nil | assumption) (by kernel_rfl) fun s_ hs_ => ?_
    simp (maxSteps := 10000000) [SX.vc, SX.stop, SX.contS, SX.contB, SX.sxStep, SX.stepPure, SX.stepNew, SX.stepStore, SX.guardIx, SX.evOp, SX.opd, SX.opds, SX.look, SX.putS, SX.gobs, SX.AllP, SX.leave, SX.lookT, SX.evBuiltin, SX.evBin, SX.evInt, SX.evLoad, SX.shapeUp, SX.evIndex, SX.evNew, SX.evStore, SX.SV.cells, SX.evNil, SX.TD.isAgg, cfg18, evC, ptrs, evL]
    refine ⟨by (unfold SX.Ob; first | trivial | omega | ((try simp only [SX.inK]); (try simp [SX.den, SX.IsU8, SX.AllP, *]); (try omega))), ?_⟩
    intro b5 u5 gr5 _
    refine post_indexA (k := 0) cfg18_ok gr5 rfl rfl rfl rfl rfl rfl rfl rfl (by decide) rfl (by simp) rfl fun c5 gi5 => ?_
    refine seg cfg18_ok mixed PanicFree.body 1000 [] [] gi5 (by first | trivial | exact HpRep.nil | assumption) (by kernel_rfl) fun sB hsB => ?_
    simp (maxSteps := 10000000) [SX.vc, SX.stop, SX.contS, SX.contB, SX.sxStep, SX.stepPure, SX.stepNew, SX.stepStore, SX.guardIx, SX.evOp, SX.opd, SX.opds, SX.look, SX.putS, SX.gobs, SX.AllP, SX.leave, SX.lookT, SX.evBuiltin, SX.evBin, SX.evInt, SX.evLoad, SX.shapeUp, SX.evIndex, SX.evNew, SX.evStore, SX.SV.cells, SX.evNil, SX.TD.isAgg, cfg18, evC, ptrs, evL]
    refine ⟨by (unfold SX.Ob; first | trivial | omega | ((try simp only [SX.inK]); (try simp [SX.den, SX.IsU8, SX.AllP, *]); (try omega))), ?_⟩
    intro a5 w5 hr5' _
    have hr5 := hr4.unbase hr5'
    have z5 : w4.heap.size ≤ w5.heap.size := hr5'.keeps.size
    have hO5 := hO.keep hr5'.keeps (by simp [mutB])
    refine post_app (C := cfg18) cfg18_ok hr5 (by first | exact wanted_none rfl | exact wanted_zero (hr5.env.same rfl rfl rfl rfl) rfl (by simp)) rfl (by simp) rfl rfl rfl rfl rfl rfl rfl rfl rfl (by decide) (flatI _) (by (try simp only [List.length_cons, List.length_nil, List.length_take]); omega) (fun x hx => ⟨by omega, by omega⟩) hO5 (RdS.lit (x := e.d) hr5.all.2.1.1 (by simp [L6.intC])) [(sE, true, .cells (evC e) 47)] (fun w' B hk hB => HpAll.to hk (hr5.all.take 1) (fun y hy hyb => (hB _ hyb).1.2 (congrArg Prod.fst (List.mem_singleton.1 hy)))) (fun x hx => .inl hx.1) fun V6 a6 w6 B6 hO6 hB6 hk6 hr6 => ?_
    obtain ⟨a6', c6, rfl⟩ := hO6.slice
    refine seg cfg18_ok mixed PanicFree.body 1000 [] [] hr6.rebase (by first | trivial | exact HpRep.nil | assumption) (by kernel_rfl) fun s_ hs_ => ?_
    simp (maxSteps := 10000000) [SX.vc, SX.stop, SX.contS, SX.sxStep, SX.stepPure, SX.guardIx, SX.evOp, SX.opd, SX.look, SX.putS, SX.gobs, SX.AllP, SX.leave, SX.evBin, SX.evInt, SX.arith, cfg18, evL]
    refine ⟨by (unfold SX.Ob; first | trivial | omega | ((try simp only [SX.inK]); (try simp [SX.den, SX.IsU8, SX.AllP, *]); (try omega))), ?_⟩
    intro a7 w7 hr7' _
    have hr7 := hr6.unbase hr7'
    have hO7 : OwI (fun x => w.heap.size ≤ x ∧ x ≠ sE) w7 _ ((evL e).take 1) := hO6.keep hr7'.keeps (by simp [mutB])
    exact post_rnd (8 - 1) (by omega) ⟨1, _, rfl, by omega, hO7, hr7.re (by simp [envTo, SX.look, den, evL, ptrs]) hr7.all rfl rfl⟩
  · refine seg cfg18_ok mixed PanicFree.body 1000 [true] [] hr4.rebase (by first | trivial | exact HpRep.nil | assumption) (by kernel_rfl) fun s_ hs_ => ?_
    simp (maxSteps := 10000000) [SX.vc, SX.stop, SX.contS, SX.contB, SX.sxStep, SX.stepPure, SX.stepNew, SX.stepStore, SX.guardIx, SX.evOp, SX.opd, SX.opds, SX.look, SX.putS, SX.gobs, SX.AllP, SX.leave, SX.lookT, SX.evBuiltin, SX.evBin, SX.evInt, SX.evLoad, SX.shapeUp, SX.evIndex, SX.evNew, SX.evStore, SX.SV.cells, SX.evNil, SX.TD.isAgg, cfg18, evC, ptrs, evL]
    refine ⟨by (unfold SX.Ob; first | trivial | omega | ((try simp only [SX.inK]); (try simp [SX.den, SX.IsU8, SX.AllP, *]); (try omega))), ?_⟩
    intro b5 u5 gr5 _
    refine post_indexA (k := 1) cfg18_ok gr5 rfl rfl rfl rfl rfl rfl rfl rfl (by decide) rfl (by simp) rfl fun c5 gi5 => ?_
    refine seg cfg18_ok mixed PanicFree.body 1000 [] [] gi5 (by first | trivial | exact HpRep.nil | assumption) (by kernel_rfl) fun sB hsB => ?_
    simp (maxSteps := 10000000) [SX.vc, SX.stop, SX.contS, SX.contB, SX.sxStep, SX.stepPure, SX.stepNew, SX.stepStore, SX.guardIx, SX.evOp, SX.opd, SX.opds, SX.look, SX.putS, SX.gobs, SX.AllP, SX.leave, SX.lookT, SX.evBuiltin, SX.evBin, SX.evInt, SX.evLoad, SX.shapeUp, SX.evIndex, SX.evNew, SX.evStore, SX.SV.cells, SX.evNil, SX.TD.isAgg, cfg18, evC, ptrs, evL]
    refine ⟨by (unfold SX.Ob; first | trivial | omega | ((try simp only [SX.inK]); (try simp [SX.den, SX.IsU8, SX.AllP, *]); (try omega))), ?_⟩
    intro a5 w5 hr5' _
    have hr5 := hr4.unbase hr5'
    have z5 : w4.heap.size ≤ w5.heap.size := hr5'.keeps.size
    have hO5 := hO.keep hr5'.keeps (by simp [mutB])
    refine post_app (C := cfg18) cfg18_ok hr5 (by first | exact wanted_none rfl | exact wanted_zero (hr5.env.same rfl rfl rfl rfl) rfl (by simp)) rfl (by simp) rfl rfl rfl rfl rfl rfl rfl rfl rfl (by decide) (flatI _) (by (try simp only [List.length_cons, List.length_nil, List.length_take]); omega) (fun x hx => ⟨by omega, by omega⟩) hO5 (RdS.lit (x := e.h) hr5.all.2.1.1 (by simp [L6.intC])) [(sE, true, .cells (evC e) 47)] (fun w' B hk hB => HpAll.to hk (hr5.all.take 1) (fun y hy hyb => (hB _ hyb).1.2 (congrArg Prod.fst (List.mem_singleton.1 hy)))) (fun x hx => .inl hx.1) fun V6 a6 w6 B6 hO6 hB6 hk6 hr6 => ?_
    obtain ⟨a6', c6, rfl⟩ := hO6.slice
    refine seg cfg18_ok mixed PanicFree.body 1000 [] [] hr6.rebase (by first | trivial | exact HpRep.nil | assumption) (by kernel_rfl) fun s_ hs_ => ?_
    simp (maxSteps := 10000000) [SX.vc, SX.stop, SX.contS, SX.sxStep, SX.stepPure, SX.guardIx, SX.evOp, SX.opd, SX.look, SX.putS, SX.gobs, SX.AllP, SX.leave, SX.evBin, SX.evInt, SX.arith, cfg18, evL]
    refine ⟨by (unfold SX.Ob; first | trivial | omega | ((try simp only [SX.inK]); (try simp [SX.den, SX.IsU8, SX.AllP, *]); (try omega))), ?_⟩
    intro a7 w7 hr7' _
    have hr7 := hr6.unbase hr7'
    have hO7 : OwI (fun x => w.heap.size ≤ x ∧ x ≠ sE) w7 _ ((evL e).take 2) := hO6.keep hr7'.keeps (by simp [mutB])
    exact post_rnd (8 - 2) (by omega) ⟨2, _, rfl, by omega, hO7, hr7.re (by simp [envTo, SX.look, den, evL, ptrs]) hr7.all rfl rfl⟩
  · refine seg cfg18_ok mixed PanicFree.body 1000 [true] [] hr4.rebase (by first | trivial | exact HpRep.nil | assumption) (by kernel_rfl) fun s_ hs_ => ?_
    simp (maxSteps := 10000000) [SX.vc, SX.stop, SX.contS, SX.contB, SX.sxStep, SX.stepPure, SX.stepNew, SX.stepStore, SX.guardIx, SX.evOp, SX.opd, SX.opds, SX.look, SX.putS, SX.gobs, SX.AllP, SX.leave, SX.lookT, SX.evBuiltin, SX.evBin, SX.evInt, SX.evLoad, SX.shapeUp, SX.evIndex, SX.evNew, SX.evStore, SX.SV.cells, SX.evNil, SX.TD.isAgg, cfg18, evC, ptrs, evL]
    refine ⟨by (unfold SX.Ob; first | trivial | omega | ((try simp only [SX.inK]); (try simp [SX.den, SX.IsU8, SX.AllP, *]); (try omega))), ?_⟩
    intro b5 u5 gr5 _
    refine post_indexA (k := 2) cfg18_ok gr5 rfl rfl rfl rfl rfl rfl rfl rfl (by decide) rfl (by simp) rfl fun c5 gi5 => ?_
    refine seg cfg18_ok mixed PanicFree.body 1000 [] [] gi5 (by first | trivial | exact HpRep.nil | assumption) (by kernel_rfl) fun sB hsB => ?_
    simp (maxSteps := 10000000) [SX.vc, SX.stop, SX.contS, SX.contB, SX.sxStep, SX.stepPure, SX.stepNew, SX.stepStore, SX.guardIx, SX.evOp, SX.opd, SX.opds, SX.look, SX.putS, SX.gobs, SX.AllP, SX.leave, SX.lookT, SX.evBuiltin, SX.evBin, SX.evInt, SX.evLoad, SX.shapeUp, SX.evIndex, SX.evNew, SX.evStore, SX.SV.cells, SX.evNil, SX.TD.isAgg, cfg18, evC, ptrs, evL]
    refine ⟨by (unfold SX.Ob; first | trivial | omega | ((try simp only [SX.inK]); (try simp [SX.den, SX.IsU8, SX.AllP, *]); (try omega))), ?_⟩
    intro a5 w5 hr5' _
    have hr5 := hr4.unbase hr5'
    have z5 : w4.heap.size ≤ w5.heap.size := hr5'.keeps.size
    have hO5 := hO.keep hr5'.keeps (by simp [mutB])
    refine post_app (C := cfg18) cfg18_ok hr5 (by first | exact wanted_none rfl | exact wanted_zero (hr5.env.same rfl rfl rfl rfl) rfl (by simp)) rfl (by simp) rfl rfl rfl rfl rfl rfl rfl rfl rfl (by decide) (flatI _) (by (try simp only [List.length_cons, List.length_nil, List.length_take]); omega) (fun x hx => ⟨by omega, by omega⟩) hO5 (RdS.lit (x := e.z) hr5.all.2.1.1 (by simp [L6.intC])) [(sE, true, .cells (evC e) 47)] (fun w' B hk hB => HpAll.to hk (hr5.all.take 1) (fun y hy hyb => (hB _ hyb).1.2 (congrArg Prod.fst (List.mem_singleton.1 hy)))) (fun x hx => .inl hx.1) fun V6 a6 w6 B6 hO6 hB6 hk6 hr6 => ?_
    obtain ⟨a6', c6, rfl⟩ := hO6.slice
    refine seg cfg18_ok mixed PanicFree.body 1000 [] [] hr6.rebase (by first | trivial | exact HpRep.nil | assumption) (by kernel_rfl) fun s_ hs_ => ?_
    simp (maxSteps := 10000000) [SX.vc, SX.stop, SX.contS, SX.sxStep, SX.stepPure, SX.guardIx, SX.evOp, SX.opd, SX.look, SX.putS, SX.gobs, SX.AllP, SX.leave, SX.evBin, SX.evInt, SX.arith, cfg18, evL]
    refine ⟨by (unfold SX.Ob; first | trivial | omega | ((try simp only [SX.inK]); (try simp [SX.den, SX.IsU8, SX.AllP, *]); (try omega))), ?_⟩
    intro a7 w7 hr7' _
    have hr7 := hr6.unbase hr7'
    have hO7 : OwI (fun x => w.heap.size ≤ x ∧ x ≠ sE) w7 _ ((evL e).take 3) := hO6.keep hr7'.keeps (by simp [mutB])
    exact post_rnd (8 - 3) (by omega) ⟨3, _, rfl, by omega, hO7, hr7.re (by simp [envTo, SX.look, den, evL, ptrs]) hr7.all rfl rfl⟩
  · refine seg cfg18_ok mixed PanicFree.body 1000 [true] [] hr4.rebase (by first | trivial | exact HpRep.nil | assumption) (by kernel_rfl) fun s_ hs_ => ?_
    simp (maxSteps := 10000000) [SX.vc, SX.stop, SX.contS, SX.contB, SX.sxStep, SX.stepPure, SX.stepNew, SX.stepStore, SX.guardIx, SX.evOp, SX.opd, SX.opds, SX.look, SX.putS, SX.gobs, SX.AllP, SX.leave, SX.lookT, SX.evBuiltin, SX.evBin, SX.evInt, SX.evLoad, SX.shapeUp, SX.evIndex, SX.evNew, SX.evStore, SX.SV.cells, SX.evNil, SX.TD.isAgg, cfg18, evC, ptrs, evL]
    refine ⟨by (unfold SX.Ob; first | trivial | omega | ((try simp only [SX.inK]); (try simp [SX.den, SX.IsU8, SX.AllP, *]); (try omega))), ?_⟩
    intro b5 u5 gr5 _
    refine post_indexA (k := 3) cfg18_ok gr5 rfl rfl rfl rfl rfl rfl rfl rfl (by decide) rfl (by simp) rfl fun c5 gi5 => ?_
    refine seg cfg18_ok mixed PanicFree.body 1000 [] [] gi5 (by first | trivial | exact HpRep.nil | assumption) (by kernel_rfl) fun sB hsB => ?_
    simp (maxSteps := 10000000) [SX.vc, SX.stop, SX.contS, SX.contB, SX.sxStep, SX.stepPure, SX.stepNew, SX.stepStore, SX.guardIx, SX.evOp, SX.opd, SX.opds, SX.look, SX.putS, SX.gobs, SX.AllP, SX.leave, SX.lookT, SX.evBuiltin, SX.evBin, SX.evInt, SX.evLoad, SX.shapeUp, SX.evIndex, SX.evNew, SX.evStore, SX.SV.cells, SX.evNil, SX.TD.isAgg, cfg18, evC, ptrs, evL]
    refine ⟨by (unfold SX.Ob; first | trivial | omega | ((try simp only [SX.inK]); (try simp [SX.den, SX.IsU8, SX.AllP, *]); (try omega))), ?_⟩
    intro a5 w5 hr5' _
    have hr5 := hr4.unbase hr5'
    have z5 : w4.heap.size ≤ w5.heap.size := hr5'.keeps.size
    have hO5 := hO.keep hr5'.keeps (by simp [mutB])
    refine post_app (C := cfg18) cfg18_ok hr5 (by first | exact wanted_none rfl | exact wanted_zero (hr5.env.same rfl rfl rfl rfl) rfl (by simp)) rfl (by simp) rfl rfl rfl rfl rfl rfl rfl rfl rfl (by decide) (flatI _) (by (try simp only [List.length_cons, List.length_nil, List.length_take]); omega) (fun x hx => ⟨by omega, by omega⟩) hO5 (RdS.lit (x := e.e) hr5.all.2.1.1 (by simp [L6.intC])) [(sE, true, .cells (evC e) 47)] (fun w' B hk hB => HpAll.to hk (hr5.all.take 1) (fun y hy hyb => (hB _ hyb).1.2 (congrArg Prod.fst (List.mem_singleton.1 hy)))) (fun x hx => .inl hx.1) fun V6 a6 w6 B6 hO6 hB6 hk6 hr6 => ?_
    obtain ⟨a6', c6, rfl⟩ := hO6.slice
    refine seg cfg18_ok mixed PanicFree.body 1000 [] [] hr6.rebase (by first | trivial | exact HpRep.nil | assumption) (by kernel_rfl) fun s_ hs_ => ?_
    simp (maxSteps := 10000000) [SX.vc, SX.stop, SX.contS, SX.sxStep, SX.stepPure, SX.guardIx, SX.evOp, SX.opd, SX.look, SX.putS, SX.gobs, SX.AllP, SX.leave, SX.evBin, SX.evInt, SX.arith, cfg18, evL]
    refine ⟨by (unfold SX.Ob; first | trivial | omega | ((try simp only [SX.inK]); (try simp [SX.den, SX.IsU8, SX.AllP, *]); (try omega))), ?_⟩
    intro a7 w7 hr7' _
    have hr7 := hr6.unbase hr7'
    have hO7 : OwI (fun x => w.heap.size ≤ x ∧ x ≠ sE) w7 _ ((evL e).take 4) := hO6.keep hr7'.keeps (by simp [mutB])
    exact post_rnd (8 - 4) (by omega) ⟨4, _, rfl, by omega, hO7, hr7.re (by simp [envTo, SX.look, den, evL, ptrs]) hr7.all rfl rfl⟩
  · refine seg cfg18_ok mixed PanicFree.body 1000 [true] [] hr4.rebase (by first | trivial | exact HpRep.nil | assumption) (by kernel_rfl) fun s_ hs_ => ?_
    simp (maxSteps := 10000000) [SX.vc, SX.stop, SX.contS, SX.contB, SX.sxStep, SX.stepPure, SX.stepNew, SX.stepStore, SX.guardIx, SX.evOp, SX.opd, SX.opds, SX.look, SX.putS, SX.gobs, SX.AllP, SX.leave, SX.lookT, SX.evBuiltin, SX.evBin, SX.evInt, SX.evLoad, SX.shapeUp, SX.evIndex, SX.evNew, SX.evStore, SX.SV.cells, SX.evNil, SX.TD.isAgg, cfg18, evC, ptrs, evL]
    refine ⟨by (unfold SX.Ob; first | trivial | omega | ((try simp only [SX.inK]); (try simp [SX.den, SX.IsU8, SX.AllP, *]); (try omega))), ?_⟩
    intro b5 u5 gr5 _
    refine post_indexA (k := 4) cfg18_ok gr5 rfl rfl rfl rfl rfl rfl rfl rfl (by decide) rfl (by simp) rfl fun c5 gi5 => ?_
    refine seg cfg18_ok mixed PanicFree.body 1000 [] [] gi5 (by first | trivial | exact HpRep.nil | assumption) (by kernel_rfl) fun sB hsB => ?_
    simp (maxSteps := 10000000) [SX.vc, SX.stop, SX.contS, SX.contB, SX.sxStep, SX.stepPure, SX.stepNew, SX.stepStore, SX.guardIx, SX.evOp, SX.opd, SX.opds, SX.look, SX.putS, SX.gobs, SX.AllP, SX.leave, SX.lookT, SX.evBuiltin, SX.evBin, SX.evInt, SX.evLoad, SX.shapeUp, SX.evIndex, SX.evNew, SX.evStore, SX.SV.cells, SX.evNil, SX.TD.isAgg, cfg18, evC, ptrs, evL]
    refine ⟨by (unfold SX.Ob; first | trivial | omega | ((try simp only [SX.inK]); (try simp [SX.den, SX.IsU8, SX.AllP, *]); (try omega))), ?_⟩
    intro a5 w5 hr5' _
    have hr5 := hr4.unbase hr5'
    have z5 : w4.heap.size ≤ w5.heap.size := hr5'.keeps.size
    have hO5 := hO.keep hr5'.keeps (by simp [mutB])
    refine post_app (C := cfg18) cfg18_ok hr5 (by first | exact wanted_none rfl | exact wanted_zero (hr5.env.same rfl rfl rfl rfl) rfl (by simp)) rfl (by simp) rfl rfl rfl rfl rfl rfl rfl rfl rfl (by decide) (flatI _) (by (try simp only [List.length_cons, List.length_nil, List.length_take]); omega) (fun x hx => ⟨by omega, by omega⟩) hO5 (RdS.lit (x := e.fr) hr5.all.2.1.1 (by simp [L6.intC])) [(sE, true, .cells (evC e) 47)] (fun w' B hk hB => HpAll.to hk (hr5.all.take 1) (fun y hy hyb => (hB _ hyb).1.2 (congrArg Prod.fst (List.mem_singleton.1 hy)))) (fun x hx => .inl hx.1) fun V6 a6 w6 B6 hO6 hB6 hk6 hr6 => ?_
    obtain ⟨a6', c6, rfl⟩ := hO6.slice
    refine seg cfg18_ok mixed PanicFree.body 1000 [] [] hr6.rebase (by first | trivial | exact HpRep.nil | assumption) (by kernel_rfl) fun s_ hs_ => ?_
    simp (maxSteps := 10000000) [SX.vc, SX.stop, SX.contS, SX.sxStep, SX.stepPure, SX.guardIx, SX.evOp, SX.opd, SX.look, SX.putS, SX.gobs, SX.AllP, SX.leave, SX.evBin, SX.evInt, SX.arith, cfg18, evL]
    refine ⟨by (unfold SX.Ob; first | trivial | omega | ((try simp only [SX.inK]); (try simp [SX.den, SX.IsU8, SX.AllP, *]); (try omega))), ?_⟩
    intro a7 w7 hr7' _
    have hr7 := hr6.unbase hr7'
    have hO7 : OwI (fun x => w.heap.size ≤ x ∧ x ≠ sE) w7 _ ((evL e).take 5) := hO6.keep hr7'.keeps (by simp [mutB])
    exact post_rnd (8 - 5) (by omega) ⟨5, _, rfl, by omega, hO7, hr7.re (by simp [envTo, SX.look, den, evL, ptrs]) hr7.all rfl rfl⟩
  · refine seg cfg18_ok mixed PanicFree.body 1000 [true] [] hr4.rebase (by first | trivial | exact HpRep.nil | assumption) (by kernel_rfl) fun s_ hs_ => ?_
    simp (maxSteps := 10000000) [SX.vc, SX.stop, SX.contS, SX.contB, SX.sxStep, SX.stepPure, SX.stepNew, SX.stepStore, SX.guardIx, SX.evOp, SX.opd, SX.opds, SX.look, SX.putS, SX.gobs, SX.AllP, SX.leave, SX.lookT, SX.evBuiltin, SX.evBin, SX.evInt, SX.evLoad, SX.shapeUp, SX.evIndex, SX.evNew, SX.evStore, SX.SV.cells, SX.evNil, SX.TD.isAgg, cfg18, evC, ptrs, evL]
    refine ⟨by (unfold SX.Ob; first | trivial | omega | ((try simp only [SX.inK]); (try simp [SX.den, SX.IsU8, SX.AllP, *]); (try omega))), ?_⟩
    intro b5 u5 gr5 _
    refine post_indexA (k := 5) cfg18_ok gr5 rfl rfl rfl rfl rfl rfl rfl rfl (by decide) rfl (by simp) rfl fun c5 gi5 => ?_
    refine seg cfg18_ok mixed PanicFree.body 1000 [] [] gi5 (by first | trivial | exact HpRep.nil | assumption) (by kernel_rfl) fun sB hsB => ?_
    simp (maxSteps := 10000000) [SX.vc, SX.stop, SX.contS, SX.contB, SX.sxStep, SX.stepPure, SX.stepNew, SX.stepStore, SX.guardIx, SX.evOp, SX.opd, SX.opds, SX.look, SX.putS, SX.gobs, SX.AllP, SX.leave, SX.lookT, SX.evBuiltin, SX.evBin, SX.evInt, SX.evLoad, SX.shapeUp, SX.evIndex, SX.evNew, SX.evStore, SX.SV.cells, SX.evNil, SX.TD.isAgg, cfg18, evC, ptrs, evL]
    refine ⟨by (unfold SX.Ob; first | trivial | omega | ((try simp only [SX.inK]); (try simp [SX.den, SX.IsU8, SX.AllP, *]); (try omega))), ?_⟩
    intro a5 w5 hr5' _
    have hr5 := hr4.unbase hr5'
    have z5 : w4.heap.size ≤ w5.heap.size := hr5'.keeps.size
    have hO5 := hO.keep hr5'.keeps (by simp [mutB])
    refine post_app (C := cfg18) cfg18_ok hr5 (by first | exact wanted_none rfl | exact wanted_zero (hr5.env.same rfl rfl rfl rfl) rfl (by simp)) rfl (by simp) rfl rfl rfl rfl rfl rfl rfl rfl rfl (by decide) (flatI _) (by (try simp only [List.length_cons, List.length_nil, List.length_take]); omega) (fun x hx => ⟨by omega, by omega⟩) hO5 (RdS.lit (x := e.to) hr5.all.2.1.1 (by simp [L6.intC])) [(sE, true, .cells (evC e) 47)] (fun w' B hk hB => HpAll.to hk (hr5.all.take 1) (fun y hy hyb => (hB _ hyb).1.2 (congrArg Prod.fst (List.mem_singleton.1 hy)))) (fun x hx => .inl hx.1) fun V6 a6 w6 B6 hO6 hB6 hk6 hr6 => ?_
    obtain ⟨a6', c6, rfl⟩ := hO6.slice
    refine seg cfg18_ok mixed PanicFree.body 1000 [] [] hr6.rebase (by first | trivial | exact HpRep.nil | assumption) (by kernel_rfl) fun s_ hs_ => ?_
    simp (maxSteps := 10000000) [SX.vc, SX.stop, SX.contS, SX.sxStep, SX.stepPure, SX.guardIx, SX.evOp, SX.opd, SX.look, SX.putS, SX.gobs, SX.AllP, SX.leave, SX.evBin, SX.evInt, SX.arith, cfg18, evL]
    refine ⟨by (unfold SX.Ob; first | trivial | omega | ((try simp only [SX.inK]); (try simp [SX.den, SX.IsU8, SX.AllP, *]); (try omega))), ?_⟩
    intro a7 w7 hr7' _
    have hr7 := hr6.unbase hr7'
    have hO7 : OwI (fun x => w.heap.size ≤ x ∧ x ≠ sE) w7 _ ((evL e).take 6) := hO6.keep hr7'.keeps (by simp [mutB])
    exact post_rnd (8 - 6) (by omega) ⟨6, _, rfl, by omega, hO7, hr7.re (by simp [envTo, SX.look, den, evL, ptrs]) hr7.all rfl rfl⟩
  · refine seg cfg18_ok mixed PanicFree.body 1000 [true] [] hr4.rebase (by first | trivial | exact HpRep.nil | assumption) (by kernel_rfl) fun s_ hs_ => ?_
    simp (maxSteps := 10000000) [SX.vc, SX.stop, SX.contS, SX.contB, SX.sxStep, SX.stepPure, SX.stepNew, SX.stepStore, SX.guardIx, SX.evOp, SX.opd, SX.opds, SX.look, SX.putS, SX.gobs, SX.AllP, SX.leave, SX.lookT, SX.evBuiltin, SX.evBin, SX.evInt, SX.evLoad, SX.shapeUp, SX.evIndex, SX.evNew, SX.evStore, SX.SV.cells, SX.evNil, SX.TD.isAgg, cfg18, evC, ptrs, evL]
    refine ⟨by (unfold SX.Ob; first | trivial | omega | ((try simp only [SX.inK]); (try simp [SX.den, SX.IsU8, SX.AllP, *]); (try omega))), ?_⟩
    intro b5 u5 gr5 _
    refine post_indexA (k := 6) cfg18_ok gr5 rfl rfl rfl rfl rfl rfl rfl rfl (by decide) rfl (by simp) rfl fun c5 gi5 => ?_
    refine seg cfg18_ok mixed PanicFree.body 1000 [] [] gi5 (by first | trivial | exact HpRep.nil | assumption) (by kernel_rfl) fun sB hsB => ?_
    simp (maxSteps := 10000000) [SX.vc, SX.stop, SX.contS, SX.contB, SX.sxStep, SX.stepPure, SX.stepNew, SX.stepStore, SX.guardIx, SX.evOp, SX.opd, SX.opds, SX.look, SX.putS, SX.gobs, SX.AllP, SX.leave, SX.lookT, SX.evBuiltin, SX.evBin, SX.evInt, SX.evLoad, SX.shapeUp, SX.evIndex, SX.evNew, SX.evStore, SX.SV.cells, SX.evNil, SX.TD.isAgg, cfg18, evC, ptrs, evL]
    refine ⟨by (unfold SX.Ob; first | trivial | omega | ((try simp only [SX.inK]); (try simp [SX.den, SX.IsU8, SX.AllP, *]); (try omega))), ?_⟩
    intro a5 w5 hr5' _
    have hr5 := hr4.unbase hr5'
    have z5 : w4.heap.size ≤ w5.heap.size := hr5'.keeps.size
    have hO5 := hO.keep hr5'.keeps (by simp [mutB])
    refine post_app (C := cfg18) cfg18_ok hr5 (by first | exact wanted_none rfl | exact wanted_zero (hr5.env.same rfl rfl rfl rfl) rfl (by simp)) rfl (by simp) rfl rfl rfl rfl rfl rfl rfl rfl rfl (by decide) (flatI _) (by (try simp only [List.length_cons, List.length_nil, List.length_take]); omega) (fun x hx => ⟨by omega, by omega⟩) hO5 (RdS.lit (x := e.now) hr5.all.2.1.1 (by simp [L6.intC])) [(sE, true, .cells (evC e) 47)] (fun w' B hk hB => HpAll.to hk (hr5.all.take 1) (fun y hy hyb => (hB _ hyb).1.2 (congrArg Prod.fst (List.mem_singleton.1 hy)))) (fun x hx => .inl hx.1) fun V6 a6 w6 B6 hO6 hB6 hk6 hr6 => ?_
    obtain ⟨a6', c6, rfl⟩ := hO6.slice
    refine seg cfg18_ok mixed PanicFree.body 1000 [] [] hr6.rebase (by first | trivial | exact HpRep.nil | assumption) (by kernel_rfl) fun s_ hs_ => ?_
    simp (maxSteps := 10000000) [SX.vc, SX.stop, SX.contS, SX.sxStep, SX.stepPure, SX.guardIx, SX.evOp, SX.opd, SX.look, SX.putS, SX.gobs, SX.AllP, SX.leave, SX.evBin, SX.evInt, SX.arith, cfg18, evL]
    refine ⟨by (unfold SX.Ob; first | trivial | omega | ((try simp only [SX.inK]); (try simp [SX.den, SX.IsU8, SX.AllP, *]); (try omega))), ?_⟩
    intro a7 w7 hr7' _
    have hr7 := hr6.unbase hr7'
    have hO7 : OwI (fun x => w.heap.size ≤ x ∧ x ≠ sE) w7 _ ((evL e).take 7) := hO6.keep hr7'.keeps (by simp [mutB])
    exact post_rnd (8 - 7) (by omega) ⟨7, _, rfl, by omega, hO7, hr7.re (by simp [envTo, SX.look, den, evL, ptrs]) hr7.all rfl rfl⟩
  · refine seg cfg18_ok mixed PanicFree.body 1000 [true] [] hr4.rebase (by first | trivial | exact HpRep.nil | assumption) (by kernel_rfl) fun s_ hs_ => ?_
    simp (maxSteps := 10000000) [SX.vc, SX.stop, SX.contS, SX.contB, SX.sxStep, SX.stepPure, SX.stepNew, SX.stepStore, SX.guardIx, SX.evOp, SX.opd, SX.opds, SX.look, SX.putS, SX.gobs, SX.AllP, SX.leave, SX.lookT, SX.evBuiltin, SX.evBin, SX.evInt, SX.evLoad, SX.shapeUp, SX.evIndex, SX.evNew, SX.evStore, SX.SV.cells, SX.evNil, SX.TD.isAgg, cfg18, evC, ptrs, evL]
    refine ⟨by (unfold SX.Ob; first | trivial | omega | ((try simp only [SX.inK]); (try simp [SX.den, SX.IsU8, SX.AllP, *]); (try omega))), ?_⟩
    intro b5 u5 gr5 _
    refine post_indexA (k := 7) cfg18_ok gr5 rfl rfl rfl rfl rfl rfl rfl rfl (by decide) rfl (by simp) rfl fun c5 gi5 => ?_
    refine seg cfg18_ok mixed PanicFree.body 1000 [] [] gi5 (by first | trivial | exact HpRep.nil | assumption) (by kernel_rfl) fun sB hsB => ?_
    simp (maxSteps := 10000000) [SX.vc, SX.stop, SX.contS, SX.contB, SX.sxStep, SX.stepPure, SX.stepNew, SX.stepStore, SX.guardIx, SX.evOp, SX.opd, SX.opds, SX.look, SX.putS, SX.gobs, SX.AllP, SX.leave, SX.lookT, SX.evBuiltin, SX.evBin, SX.evInt, SX.evLoad, SX.shapeUp, SX.evIndex, SX.evNew, SX.evStore, SX.SV.cells, SX.evNil, SX.TD.isAgg, cfg18, evC, ptrs, evL]
    refine ⟨by (unfold SX.Ob; first | trivial | omega | ((try simp only [SX.inK]); (try simp [SX.den, SX.IsU8, SX.AllP, *]); (try omega))), ?_⟩
    intro a5 w5 hr5' _
    have hr5 := hr4.unbase hr5'
    have z5 : w4.heap.size ≤ w5.heap.size := hr5'.keeps.size
    have hO5 := hO.keep hr5'.keeps (by simp [mutB])
    refine post_app (C := cfg18) cfg18_ok hr5 (by first | exact wanted_none rfl | exact wanted_zero (hr5.env.same rfl rfl rfl rfl) rfl (by simp)) rfl (by simp) rfl rfl rfl rfl rfl rfl rfl rfl rfl (by decide) (flatI _) (by (try simp only [List.length_cons, List.length_nil, List.length_take]); omega) (fun x hx => ⟨by omega, by omega⟩) hO5 (RdS.lit (x := e.key) hr5.all.2.1.1 (by simp [L6.intC])) [(sE, true, .cells (evC e) 47)] (fun w' B hk hB => HpAll.to hk (hr5.all.take 1) (fun y hy hyb => (hB _ hyb).1.2 (congrArg Prod.fst (List.mem_singleton.1 hy)))) (fun x hx => .inl hx.1) fun V6 a6 w6 B6 hO6 hB6 hk6 hr6 => ?_
    obtain ⟨a6', c6, rfl⟩ := hO6.slice
    refine seg cfg18_ok mixed PanicFree.body 1000 [] [] hr6.rebase (by first | trivial | exact HpRep.nil | assumption) (by kernel_rfl) fun s_ hs_ => ?_
    simp (maxSteps := 10000000) [SX.vc, SX.stop, SX.contS, SX.sxStep, SX.stepPure, SX.guardIx, SX.evOp, SX.opd, SX.look, SX.putS, SX.gobs, SX.AllP, SX.leave, SX.evBin, SX.evInt, SX.arith, cfg18, evL]
    refine ⟨by (unfold SX.Ob; first | trivial | omega | ((try simp only [SX.inK]); (try simp [SX.den, SX.IsU8, SX.AllP, *]); (try omega))), ?_⟩
    intro a7 w7 hr7' _
    have hr7 := hr6.unbase hr7'
    have hO7 : OwI (fun x => w.heap.size ≤ x ∧ x ≠ sE) w7 _ ((evL e).take 8) := hO6.keep hr7'.keeps (by simp [mutB])
    exact post_rnd (8 - 8) (by omega) ⟨8, _, rfl, by omega, hO7, hr7.re (by simp [envTo, SX.look, den, evL, ptrs]) hr7.all rfl rfl⟩
end Go.Proofs.C8
