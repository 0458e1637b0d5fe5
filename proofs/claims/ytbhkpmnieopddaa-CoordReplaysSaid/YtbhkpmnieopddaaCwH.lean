/- CwH: texts of this proof, joined. -/
import Derived.Test.YtbhkpmnieopddaaCwG
set_option linter.unusedVariables false
set_option linter.unusedSimpArgs false
set_option linter.unusedSectionVars false
namespace Go.Proofs.C8
open Go Go.Proofs Go.SX Go.RowKit Go.Proofs.L6
def TNumsR (w : World) (B ns : List Nat) (e : Ending) (w' : World) : Prop :=
  Below w.heap.size w w' ∧ (((∃ Q, B = putN ns ++ Q) ∧ ∃ v, e = .returned (den (.tu [.v v, .v (.int .i64 (putN ns).length), .v (.int .i64 0)])) ∧ OwI (fun x => w.heap.size ≤ x) w' v (ints ns)) ∨
    ((¬ ∃ Q, B = putN ns ++ Q) ∧ e = .returned (den (.tu [.v (.slice none 0 0), .v (.int .i64 0), .v (.int .i64 20)]))))
set_option maxRecDepth 100000 in
set_option maxHeartbeats 32000000 in
theorem tnums_ok {P : Nat → Prop} (w : World) (v : Value) (B : List Nat) (ns : List Nat) (hB : RdU P w v B) (hlen : B.length ≤ 1000000) (hC : Cmp B (putN ns)) (hns : ∀ n ∈ ns, n < 9223372036854775808) (hl : ns.length ≤ 100) :
    Calls Try.prog 38 (denL [.v v, .v (.int .i64 ns.length)]).toArray w (TNumsR w B ns) := by
  obtain ⟨ad, cp, rfl⟩ := hB.slice
  refine enter (F := frame0 w) Try.func38 rfl [.v (.slice ad B.length cp), .v (.int .i64 ns.length)] [] (by simp [Try.f38]) trivial (keeps0 w) fun a hr => ?_
  have hl0 : ¬ (ns.length : Int) < 0 := by omega
  refine seg cfg38_ok mixed PanicFree.body 1000 [false] [] hr (by first | trivial | exact HpRep.nil | assumption) (by kernel_rfl) fun sR hsR => ?_
  simp (maxSteps := 10000000) [SX.vc, SX.stop, SX.contS, SX.contB, SX.sxStep, SX.stepPure, SX.stepNew, SX.stepStore, SX.guardIx, SX.evOp, SX.opd, SX.opds, SX.look, SX.putS, SX.gobs, SX.AllP, SX.leave, SX.lookT, SX.evBin, SX.evInt, SX.evFill, SX.evBuild, SX.szs, SX.cellsV, SX.evNew, SX.evStore, SX.spliceL, SX.SV.cells, SX.env0, Go.Value.cells, cfg38, Try.f38, hl0]
  refine ⟨by (unfold SX.Ob; first | trivial | omega | ((try simp only [SX.inK]); (try simp [SX.den, SX.IsU8, SX.AllP, *]); (try omega))), ?_⟩
  intro a1 w1 hr1 _
  have z1 : w.heap.size ≤ w1.heap.size := hr1.keeps.size
  have q1 := hpLt hr1.all
  simp at q1
  have hB1 : RdU (fun x => x < w.heap.size) w1 (.slice ad B.length cp) B := (hB.mono (P' := fun x => x < w.heap.size) fun x h _ => h).below hr1.keeps.toBelow
  have hnum := rnums_ok w1 sR ad cp B 0 ns hr1.all.1.1 hB1 (by omega) (by omega) hlen (by simpa using hC) hns hl
  have hge : ∀ x ∈ [sR], w.heap.size ≤ x := fun x hx => by
    have : x = sR := by simpa using hx
    omega
  refine post_call 65 [.ptr 0 sR 0, .v (.int .i64 ns.length)] hr1 (wanted_none rfl) rfl (callable 65 Try.func65) hnum ?_
  rintro e2 w2 ⟨hk2, ⟨hQ, ⟨v2, rfl, hO2⟩, hR2⟩ | ⟨hno, rfl, q, hR2⟩⟩
  · obtain ⟨a2', c2, rfl⟩ := hO2.slice
    refine ⟨_, rfl, ?_⟩
    have hr2 := hr1.retK hk2 (fun x hx => .inl (hge x hx)) 16 (.v (.slice a2' (ints ns).length c2)) rfl _ (HpAll.wr hr1.all hk2 hR2) (by simp) rfl
    refine seg cfg38_ok mixed PanicFree.body 1000 [false] [] hr2.rebase (by first | trivial | exact HpRep.nil | assumption) (by kernel_rfl) fun s_ hs_ => ?_
    simp (maxSteps := 10000000) [SX.vc, SX.stop, SX.contS, SX.contB, SX.contR, SX.contD, SX.sxStep, SX.stepPure, SX.guardIx, SX.evOp, SX.opd, SX.look, SX.putS, SX.gobs, SX.AllP, SX.leave, SX.lookT, SX.lookN, SX.evBin, SX.evInt, SX.evLoad, SX.shapeUp, SX.evFieldAddr, SX.evNil, SX.TD.isAgg, SX.thaw, cfg38, rdC]
    refine ⟨by (unfold SX.Ob; first | trivial | omega | ((try simp only [SX.inK]); (try simp [SX.den, SX.IsU8, SX.AllP, *]); (try omega))), ?_⟩
    intro a3 w3 hr3' _
    have hr3 := hr2.unbase hr3'
    rw [List.drop_zero] at hQ
    exact post_retn (end3 hr3 rfl rfl rfl rfl ⟨hr3.keeps.toBelow, .inl ⟨hQ, _, by simp [den, denL], (hO2.keep hr3'.keeps (by simp [mutB]; omega)).mono fun x _ h => by omega⟩⟩).1
  · refine ⟨_, rfl, ?_⟩
    have hr2 := hr1.retK hk2 (fun x hx => .inl (hge x hx)) 16 (.v (.slice none 0 0)) rfl _ (HpAll.wr hr1.all hk2 hR2) (by simp) rfl
    refine seg cfg38_ok mixed PanicFree.body 1000 [true] [] hr2 (by first | trivial | exact HpRep.nil | assumption) (by kernel_rfl) fun s_ hs_ => ?_
    simp (maxSteps := 10000000) [SX.vc, SX.stop, SX.contS, SX.contB, SX.contR, SX.contD, SX.sxStep, SX.stepPure, SX.guardIx, SX.evOp, SX.opd, SX.look, SX.putS, SX.gobs, SX.AllP, SX.leave, SX.lookT, SX.lookN, SX.evBin, SX.evInt, SX.evLoad, SX.shapeUp, SX.evFieldAddr, SX.evNil, SX.TD.isAgg, SX.thaw, cfg38, rdC]
    refine ⟨by (unfold SX.Ob; first | trivial | omega | ((try simp only [SX.inK]); (try simp [SX.den, SX.IsU8, SX.AllP, *]); (try omega))), ?_⟩
    intro a3 w3 hr3 _
    rw [List.drop_zero] at hno
    exact post_retn (end3 hr3 rfl rfl rfl rfl ⟨hr3.keeps.toBelow, .inr ⟨hno, rfl⟩⟩).1
end Go.Proofs.C8
