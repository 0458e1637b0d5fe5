/- CwF: texts of this proof, joined. -/
import Derived.Test.YtbhkpmnieopddaaCwE
set_option linter.unusedVariables false
set_option linter.unusedSimpArgs false
set_option linter.unusedSectionVars false
namespace Go.Proofs.C8
open Go Go.Proofs Go.SX Go.RowKit Go.Proofs.L6
def rdC (vb : Value) (at_ e : Int) : List SV := [.v vb, .v (.int .i64 at_), .v (.int .i64 e)]
def NumR (w : World) (R : Nat) (vb : Value) (B : List Nat) (p n : Nat) (e : Ending) (w' : World) : Prop :=
  KeepsTo w [R] w' ∧ (((∃ Q, B.drop p = put n ++ Q) ∧ e = .returned (.int .i64 n) ∧ (SO.cells (rdC vb (p + (put n).length : Nat) 0) 120).rep w' R) ∨
    ((¬ ∃ Q, B.drop p = put n ++ Q) ∧ e = .returned (.int .i64 0) ∧ (SO.cells (rdC vb p 20) 120).rep w' R))
theorem shr63 {n : Nat} (h : n < 9223372036854775808) : (n : Int).fdiv (2 ^ min 63 IntKind.u64.bits) = 0 := by
  show (n : Int).fdiv 9223372036854775808 = 0
  rw [Int.fdiv_eq_ediv_of_nonneg _ (by omega)]
  omega
set_option maxRecDepth 100000 in
set_option maxHeartbeats 32000000 in
theorem num_ok {P : Nat → Prop} (w : World) (R : Nat) (vb : Value) (B : List Nat) (p n : Nat) (hR : (SO.cells (rdC vb p 0) 120).rep w R) (hB : RdU P w vb B) (nR : ¬ P R) (hp : p ≤ B.length) (hlen : B.length ≤ 1000000) (hN : Numb (B.drop p) n) :
    Calls Try.prog 86 (denL [.ptr 0 R 0]).toArray w (NumR w R vb B p n) := by
  have hn := hN.1
  have hl9 : (put n).length ≤ 9 := put_len 8 n (by
    have : (128 : Nat) ^ (8 + 1) = 9223372036854775808 := by decide
    omega)
  have hRw := SO.rep_lt hR
  have hsh := shr63 hn
  have hwr : IntKind.i64.wrap (n : Int) = n := IntWalk.i64_in _ (by omega)
  rcases hB with ⟨hB0, ad, cp, hvb⟩ | ⟨h0, b, o0, cp, u, fz, hP, hvb, hrep, hcp⟩
  · subst hB0 hvb
    obtain rfl : p = 0 := by simpa using hp
    have hrest : RdU (fun _ => True) w (.slice ad 0 cp) (([] : List Nat).drop 0) := .inl ⟨rfl, _, _, rfl⟩
    rcases ad with _ | ad
    · have hE : HpAll ⟨w, w.heap.size, [R]⟩ w [(R, true, .cells [.v (.slice none 0 cp), .v (.int .i64 0), .v (.int .i64 0)] 120)] := ⟨⟨hR, fun _ => .inr (by simp), by simp⟩, trivial⟩
      refine enter (F := ⟨w, w.heap.size, [R]⟩) Try.func86 rfl [.ptr 0 R 0] _ (by simp [Try.f86]) hE (KeepsTo.refl w _) fun a hr => ?_
      refine seg cfg86_ok mixed PanicFree.body 1000 [false] [] hr.rebase (by first | trivial | exact HpRep.nil | assumption) (by kernel_rfl) fun s_ hs_ => ?_
      simp (maxSteps := 10000000) [SX.vc, SX.stop, SX.contS, SX.contB, SX.contR, SX.contD, SX.sxStep, SX.stepPure, SX.stepNew, SX.stepKeep, SX.guardIx, SX.evOp, SX.opd, SX.optOpd, SX.look, SX.putS, SX.gobs, SX.AllP, SX.leave, SX.lookT, SX.lookN, SX.evBin, SX.evInt, SX.evLoad, SX.shapeUp, SX.evFieldAddr, SX.evNew, SX.evSlice, SX.bnd, SX.evNil, SX.env0, SX.TD.isAgg, SX.thaw, cfg86, Try.f86]
      refine ⟨by (unfold SX.Ob; first | trivial | omega | ((try simp only [SX.inK]); (try simp [SX.den, SX.IsU8, SX.AllP, *]); (try omega))), ?_⟩
      intro a1 w1 hr1' ht1
      have hrest : RdU (fun _ => True) w1 (.slice none 0 cp) (([] : List Nat).drop 0) := .inl ⟨rfl, _, _, rfl⟩
      have hr1 := hr.unbase hr1'
      refine post_callD 94 [.v (.slice none 0 cp)] hr1 rfl (wanted_none rfl) rfl (callable 94 Try.func94) (take_ok w1 _ (([] : List Nat).drop 0) n hrest hN (by simp)) ?_
      rintro e2 w2 ⟨hb2, ⟨hQ, rfl⟩ | ⟨hQ, rfl⟩⟩
      · have ht2 := HpRep_below ht1 hb2
        refine ⟨_, rfl, ht2, ?_⟩
        have hr2 := hr1.ret hb2 21 (.tu [.v (.int .u64 n), .v (.int .i64 (put n).length), .v (.int .i64 0)]) rfl _ (hr1.all.below hb2) (by simp) rfl
        refine seg cfg86_ok mixed PanicFree.body 1000 [false, false] [(27, true)] hr2 (by first | trivial | exact HpRep.nil | assumption) (by kernel_rfl) fun s_ hs_ => ?_
        simp (maxSteps := 10000000) [SX.vc, SX.stop, SX.contS, SX.contB, SX.contD, SX.sxStep, SX.stepPure, SX.stepNew, SX.stepStore, SX.guardIx, SX.evOp, SX.opd, SX.look, SX.putS, SX.gobs, SX.AllP, SX.leave, SX.lookB, SX.lookT, SX.evBin, SX.evInt, SX.arith, SX.evLoad, SX.shapeUp, SX.evFieldAddr, SX.evNew, SX.evStore, SX.spliceL, SX.SV.cells, SX.evConv, SX.evNil, SX.evPick, SX.cnd, SX.TD.isAgg, SX.NotAgg, SX.evConvH, cfg86, hsh, hwr]
        refine ⟨by (unfold SX.Ob; first | trivial | omega | ((try simp only [SX.inK]); (try simp [SX.den, SX.IsU8, SX.AllP, *]); (try omega))), ?_⟩
        intro a3 w3 hr3 _
        exact post_retn (end1 hr3 rfl rfl ⟨hr3.keeps, .inl ⟨hQ, rfl, (by have h := hr3.all.1.1; simpa [rdC, denL, den] using h)⟩⟩).1
      · have ht2 := HpRep_below ht1 hb2
        refine ⟨_, rfl, ht2, ?_⟩
        have hr2 := hr1.ret hb2 21 (.tu [.v (.int .u64 0), .v (.int .i64 0), .v (.int .i64 20)]) rfl _ (hr1.all.below hb2) (by simp) rfl
        refine seg cfg86_ok mixed PanicFree.body 1000 [false, true] [(27, false)] hr2 (by first | trivial | exact HpRep.nil | assumption) (by kernel_rfl) fun s_ hs_ => ?_
        simp (maxSteps := 10000000) [SX.vc, SX.stop, SX.contS, SX.contB, SX.contD, SX.sxStep, SX.stepPure, SX.stepNew, SX.stepStore, SX.guardIx, SX.evOp, SX.opd, SX.look, SX.putS, SX.gobs, SX.AllP, SX.leave, SX.lookB, SX.lookT, SX.evBin, SX.evInt, SX.evFieldAddr, SX.evNew, SX.evStore, SX.spliceL, SX.SV.cells, SX.evNil, SX.evPick, SX.cnd, SX.NotAgg, Go.undef, cfg86]
        refine ⟨by (unfold SX.Ob; first | trivial | omega | ((try simp only [SX.inK]); (try simp [SX.den, SX.IsU8, SX.AllP, *]); (try omega))), ?_⟩
        intro a3 w3 hr3 _
        exact post_retn (end1 hr3 rfl rfl ⟨hr3.keeps, .inr ⟨hQ, rfl, (by have h := hr3.all.1.1; simpa [rdC, denL, den] using h)⟩⟩).1
    · have hE : HpAll ⟨w, w.heap.size, [R]⟩ w [(R, true, .cells [.v (.slice (some ad) 0 cp), .v (.int .i64 0), .v (.int .i64 0)] 120)] := ⟨⟨hR, fun _ => .inr (by simp), by simp⟩, trivial⟩
      refine enter (F := ⟨w, w.heap.size, [R]⟩) Try.func86 rfl [.ptr 0 R 0] _ (by simp [Try.f86]) hE (KeepsTo.refl w _) fun a hr => ?_
      refine seg cfg86_ok mixed PanicFree.body 1000 [false] [] hr.rebase (by first | trivial | exact HpRep.nil | assumption) (by kernel_rfl) fun s_ hs_ => ?_
      simp (maxSteps := 10000000) [SX.vc, SX.stop, SX.contS, SX.contB, SX.contR, SX.contD, SX.sxStep, SX.stepPure, SX.stepNew, SX.stepKeep, SX.guardIx, SX.evOp, SX.opd, SX.optOpd, SX.look, SX.putS, SX.gobs, SX.AllP, SX.leave, SX.lookT, SX.lookN, SX.evBin, SX.evInt, SX.evLoad, SX.shapeUp, SX.evFieldAddr, SX.evNew, SX.evSlice, SX.bnd, SX.evNil, SX.env0, SX.TD.isAgg, SX.thaw, cfg86, Try.f86]
      refine ⟨by (unfold SX.Ob; first | trivial | omega | ((try simp only [SX.inK]); (try simp [SX.den, SX.IsU8, SX.AllP, *]); (try omega))), ?_⟩
      intro a1 w1 hr1' ht1
      have hrest : RdU (fun _ => True) w1 (.slice (some ad) 0 cp) (([] : List Nat).drop 0) := .inl ⟨rfl, _, _, rfl⟩
      have hr1 := hr.unbase hr1'
      refine post_callD 94 [.v (.slice (some ad) 0 cp)] hr1 rfl (wanted_none rfl) rfl (callable 94 Try.func94) (take_ok w1 _ (([] : List Nat).drop 0) n hrest hN (by simp)) ?_
      rintro e2 w2 ⟨hb2, ⟨hQ, rfl⟩ | ⟨hQ, rfl⟩⟩
      · have ht2 := HpRep_below ht1 hb2
        refine ⟨_, rfl, ht2, ?_⟩
        have hr2 := hr1.ret hb2 21 (.tu [.v (.int .u64 n), .v (.int .i64 (put n).length), .v (.int .i64 0)]) rfl _ (hr1.all.below hb2) (by simp) rfl
        refine seg cfg86_ok mixed PanicFree.body 1000 [false, false] [(27, true)] hr2 (by first | trivial | exact HpRep.nil | assumption) (by kernel_rfl) fun s_ hs_ => ?_
        simp (maxSteps := 10000000) [SX.vc, SX.stop, SX.contS, SX.contB, SX.contD, SX.sxStep, SX.stepPure, SX.stepNew, SX.stepStore, SX.guardIx, SX.evOp, SX.opd, SX.look, SX.putS, SX.gobs, SX.AllP, SX.leave, SX.lookB, SX.lookT, SX.evBin, SX.evInt, SX.arith, SX.evLoad, SX.shapeUp, SX.evFieldAddr, SX.evNew, SX.evStore, SX.spliceL, SX.SV.cells, SX.evConv, SX.evNil, SX.evPick, SX.cnd, SX.TD.isAgg, SX.NotAgg, SX.evConvH, cfg86, hsh, hwr]
        refine ⟨by (unfold SX.Ob; first | trivial | omega | ((try simp only [SX.inK]); (try simp [SX.den, SX.IsU8, SX.AllP, *]); (try omega))), ?_⟩
        intro a3 w3 hr3 _
        exact post_retn (end1 hr3 rfl rfl ⟨hr3.keeps, .inl ⟨hQ, rfl, (by have h := hr3.all.1.1; simpa [rdC, denL, den] using h)⟩⟩).1
      · have ht2 := HpRep_below ht1 hb2
        refine ⟨_, rfl, ht2, ?_⟩
        have hr2 := hr1.ret hb2 21 (.tu [.v (.int .u64 0), .v (.int .i64 0), .v (.int .i64 20)]) rfl _ (hr1.all.below hb2) (by simp) rfl
        refine seg cfg86_ok mixed PanicFree.body 1000 [false, true] [(27, false)] hr2 (by first | trivial | exact HpRep.nil | assumption) (by kernel_rfl) fun s_ hs_ => ?_
        simp (maxSteps := 10000000) [SX.vc, SX.stop, SX.contS, SX.contB, SX.contD, SX.sxStep, SX.stepPure, SX.stepNew, SX.stepStore, SX.guardIx, SX.evOp, SX.opd, SX.look, SX.putS, SX.gobs, SX.AllP, SX.leave, SX.lookB, SX.lookT, SX.evBin, SX.evInt, SX.evFieldAddr, SX.evNew, SX.evStore, SX.spliceL, SX.SV.cells, SX.evNil, SX.evPick, SX.cnd, SX.NotAgg, Go.undef, cfg86]
        refine ⟨by (unfold SX.Ob; first | trivial | omega | ((try simp only [SX.inK]); (try simp [SX.den, SX.IsU8, SX.AllP, *]); (try omega))), ?_⟩
        intro a3 w3 hr3 _
        exact post_retn (end1 hr3 rfl rfl ⟨hr3.keeps, .inr ⟨hQ, rfl, (by have h := hr3.all.1.1; simpa [rdC, denL, den] using h)⟩⟩).1
  · subst hvb
    have hbw := SO.rep_lt hrep
    have hE : HpAll ⟨w, w.heap.size, [R]⟩ w [(R, true, .cells [.sl 1 b o0 0 B.length cp 1, .v (.int .i64 p), .v (.int .i64 0)] 120), (b, false, .arr o0 B.length (fun j => u8C (nth 0 B j)) 1 u fz)] := ⟨⟨hR, fun _ => .inr (by simp), by simp; exact fun h => nR (h ▸ hP)⟩, ⟨hrep, by simp, by simp⟩, trivial⟩
    refine enter (F := ⟨w, w.heap.size, [R]⟩) Try.func86 rfl [.ptr 0 R 0] _ (by simp [Try.f86]) hE (KeepsTo.refl w _) fun a hr => ?_
    obtain ⟨base, hbase⟩ : ∃ base, (if cp = p then 0 else p) = base := ⟨_, rfl⟩
    refine seg cfg86_ok mixed PanicFree.body 1000 [false] [] hr.rebase (by first | trivial | exact HpRep.nil | assumption) (by kernel_rfl) fun s_ hs_ => ?_
    simp (maxSteps := 10000000) [SX.vc, SX.stop, SX.contS, SX.contB, SX.contR, SX.contD, SX.sxStep, SX.stepPure, SX.stepNew, SX.stepKeep, SX.guardIx, SX.evOp, SX.opd, SX.optOpd, SX.look, SX.putS, SX.gobs, SX.AllP, SX.leave, SX.lookT, SX.lookN, SX.evBin, SX.evInt, SX.evLoad, SX.shapeUp, SX.evFieldAddr, SX.evNew, SX.evSlice, SX.bnd, SX.evNil, SX.env0, SX.TD.isAgg, SX.thaw, cfg86, Try.f86, hbase]
    refine ⟨by (unfold SX.Ob; first | trivial | omega | ((try simp only [SX.inK]); (try simp [SX.den, SX.IsU8, SX.AllP, *]); (try omega))), ?_⟩
    intro a1 w1 hr1' ht1
    have hrep1 := hr1'.all.2.1.1
    have hrest : RdU (fun _ => True) w1 (.slice (some ⟨b, o0 + base * 1, none⟩) (B.length - p) (cp - p)) (B.drop p) := by
      by_cases hpe : p = B.length
      · subst hpe
        rw [List.drop_length, Nat.sub_self]
        exact .inl ⟨rfl, _, _, rfl⟩
      · have hne : ¬ cp = p := by omega
        rw [if_neg hne] at hbase
        subst hbase
        have h := RdS.part (enc := u8C) (d := 0) (L := B) (base := p) (len := B.length - p) (cap := cp - p) (P := fun _ => True) trivial rfl hrep1 (by omega) (by omega)
        rwa [List.take_of_length_le (by simp)] at h
    have hr1 := hr.unbase hr1'
    refine post_callD 94 [.sl 1 b o0 base (B.length - p) (cp - p) 1] hr1 rfl (wanted_none rfl) rfl (callable 94 Try.func94) (take_ok w1 _ (B.drop p) n hrest hN (by simp; omega)) ?_
    rintro e2 w2 ⟨hb2, ⟨hQ, rfl⟩ | ⟨hQ, rfl⟩⟩
    · have ht2 := HpRep_below ht1 hb2
      refine ⟨_, rfl, ht2, ?_⟩
      have hr2 := hr1.ret hb2 21 (.tu [.v (.int .u64 n), .v (.int .i64 (put n).length), .v (.int .i64 0)]) rfl _ (hr1.all.below hb2) (by simp) rfl
      refine seg cfg86_ok mixed PanicFree.body 1000 [false, false] [(27, true)] hr2 (by first | trivial | exact HpRep.nil | assumption) (by kernel_rfl) fun s_ hs_ => ?_
      simp (maxSteps := 10000000) [SX.vc, SX.stop, SX.contS, SX.contB, SX.contD, SX.sxStep, SX.stepPure, SX.stepNew, SX.stepStore, SX.guardIx, SX.evOp, SX.opd, SX.look, SX.putS, SX.gobs, SX.AllP, SX.leave, SX.lookB, SX.lookT, SX.evBin, SX.evInt, SX.arith, SX.evLoad, SX.shapeUp, SX.evFieldAddr, SX.evNew, SX.evStore, SX.spliceL, SX.SV.cells, SX.evConv, SX.evNil, SX.evPick, SX.cnd, SX.TD.isAgg, SX.NotAgg, SX.evConvH, cfg86, hsh, hwr]
      refine ⟨by (unfold SX.Ob; first | trivial | omega | ((try simp only [SX.inK]); (try simp [SX.den, SX.IsU8, SX.AllP, *]); (try omega))), ?_⟩
      intro a3 w3 hr3 _
      exact post_retn (end1 hr3 rfl rfl ⟨hr3.keeps, .inl ⟨hQ, rfl, (by have h := hr3.all.1.1; rw [Int.natCast_add]; exact h)⟩⟩).1
    · have ht2 := HpRep_below ht1 hb2
      refine ⟨_, rfl, ht2, ?_⟩
      have hr2 := hr1.ret hb2 21 (.tu [.v (.int .u64 0), .v (.int .i64 0), .v (.int .i64 20)]) rfl _ (hr1.all.below hb2) (by simp) rfl
      refine seg cfg86_ok mixed PanicFree.body 1000 [false, true] [(27, false)] hr2 (by first | trivial | exact HpRep.nil | assumption) (by kernel_rfl) fun s_ hs_ => ?_
      simp (maxSteps := 10000000) [SX.vc, SX.stop, SX.contS, SX.contB, SX.contD, SX.sxStep, SX.stepPure, SX.stepNew, SX.stepStore, SX.guardIx, SX.evOp, SX.opd, SX.look, SX.putS, SX.gobs, SX.AllP, SX.leave, SX.lookB, SX.lookT, SX.evBin, SX.evInt, SX.evFieldAddr, SX.evNew, SX.evStore, SX.spliceL, SX.SV.cells, SX.evNil, SX.evPick, SX.cnd, SX.NotAgg, Go.undef, cfg86]
      refine ⟨by (unfold SX.Ob; first | trivial | omega | ((try simp only [SX.inK]); (try simp [SX.den, SX.IsU8, SX.AllP, *]); (try omega))), ?_⟩
      intro a3 w3 hr3 _
      exact post_retn (end1 hr3 rfl rfl ⟨hr3.keeps, .inr ⟨hQ, rfl, (by have h := hr3.all.1.1; exact h)⟩⟩).1
end Go.Proofs.C8
