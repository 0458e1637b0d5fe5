/- Script: a line that is read. -/
import Derived.Test.YtnikfpbhmfdkcaaDoorSG
import Derived.Test.YtnikfpbhmfdkcaaDoorSxO
namespace Go.Proofs
set_option linter.unusedVariables false
set_option linter.unusedSimpArgs false
set_option linter.unusedSectionVars false
open Go Go.SX Go.RowKit Go.Script

abbrev stepC (x : Stp) (by8 : Int) : List SV := [.v (.int .i64 x.d), .v (.int .i64 x.who), .v (.int .i64 x.a.d), .v (.int .i64 x.a.host), .v (.int .i64 x.a.zone), .v (.int .i64 x.a.lba), .v (.int .i64 x.a.n), .v (.int .u8 by8), .v (.int .i64 x.a.keep)]
theorem HpRep_below {H : Hp} {w w' : World} (h : HpRep H w) (hb : Below w.heap.size w w') : HpRep H w' := fun i b m o hi => SO.rep_same (h i b m o hi) (hb.block b (SO.rep_lt (h i b m o hi)))
theorem findL_le (L : List L8) (x : L8) (n : Nat) (h : L.length ≤ n + 1) : findL L x ≤ n := by
  unfold findL
  split
  · omega
  · cases hq : L.idxOf? x with
    | none => simp
    | some k =>
      have := List.idxOf?_eq_some_iff.1 hq
      obtain ⟨hk, _⟩ := this
      simp
      omega
/-- What read answers. -/
def ReadEnd (l : L8) (e : Ending) : Prop := ∃ (x : Stp) (b8 : Int) (ok : Bool), e = .returned (den (.tu [.ag (stepC x b8), .v (.bool ok)])) ∧ ((readL l = some x ∧ b8 = x.a.by_ ∧ ok = true) ∨ (readL l = none ∧ ok = false))

/-- A slice without its first thing. -/
theorem rd_tail {w : World} {P : Nat → Prop} {b o0 cap n base len : Nat} {u : TypeId} {fz : Nat × Nat} {L : List L8} {i : Nat} (hP : P b) (hn : L.length = n) (h : (SO.arr o0 n (fun j => wRow (nth [] L j)) 1 u fz).rep w b) (hb : base + len = n) (h1 : 1 ≤ len) (hc : len ≤ cap) :
    RdW P w (den (.sl i b o0 (if cap = 1 then base else base + 1) (len - 1) (cap - 1) 1)) (L.drop (base + 1)) := by
  rcases Nat.lt_or_ge 1 len with h2 | h2
  · rw [if_neg (by omega)]
    have := RdS.part (P := P) (enc := wRow) (d := []) (base := base + 1) (len := len - 1) (cap := cap - 1) hP hn.symm h (by omega) (by omega)
    rw [List.take_of_length_le (by simp; omega)] at this
    exact this
  · obtain rfl : len = 1 := by omega
    exact .inl ⟨List.drop_eq_nil_of_le (by omega), _, _, rfl⟩

theorem readL_act {l x : L8} {r : List L8} {d : Nat} (h : words l = x :: r) (hd : findL stepW x = d) (hw : hasWho d = false) : readL l = readB r ⟨d, 0, Ac.zero 0⟩ := by
  simp [readL, h, hd, hw]
theorem readL_none {l x : L8} {d : Nat} (h : words l = [x]) (hd : findL stepW x = d) (hw : hasWho d = true) : readL l = none := by
  simp [readL, h, hd, hw]
theorem readL_who {l x v : L8} {r : List L8} {d : Nat} (h : words l = x :: v :: r) (hd : findL stepW x = d) (hw : hasWho d = true) : readL l = match numL v with
    | some n => readB r ⟨d, n, Ac.zero 0⟩
    | none => none := by
  simp [readL, h, hd, hw]
  cases numL v <;> rfl
theorem number_none (w : World) (l : L8) (h : numL l = none) : Calls Tryd.prog 10 (denL [.v (.string (B l))]).toArray w fun e w' => (∃ n, e = .returned (den (.tu [.v (.int .i64 n), .v (.bool false)]))) ∧ Below w.heap.size w w' :=
  (number_ok w l).mono fun e w' ⟨⟨n, ok, he, hN⟩, hb⟩ => ⟨(by
    rcases hN with ⟨k, h1, _, _⟩ | ⟨_, rfl⟩
    · rw [h] at h1; cases h1
    · exact ⟨n, he⟩), hb⟩
theorem number_some (w : World) (l : L8) (k : Nat) (h : numL l = some k) : Calls Tryd.prog 10 (denL [.v (.string (B l))]).toArray w fun e w' => e = .returned (den (.tu [.v (.int .i64 k), .v (.bool true)])) ∧ Below w.heap.size w w' :=
  (number_ok w l).mono fun e w' ⟨⟨n, ok, he, hN⟩, hb⟩ => ⟨(by
    rcases hN with ⟨k', h1, rfl, rfl⟩ | ⟨h1, _⟩
    · rw [h] at h1; cases h1; exact he
    · rw [h] at h1; cases h1), hb⟩
def ReadJ (w w1 : World) (l : L8) (sB : Nat) (a : Act) (w' : World) : Prop :=
  ∃ (d : Nat) (who : Int) (ws : List L8) (v : Value), readL l = readB ws ⟨d, who, Ac.zero 0⟩ ∧ ws.length ≤ l.length + 1 ∧ RdW (fun x => w1.heap.size ≤ x ∧ x < w'.heap.size) w' v ws ∧ d ≤ 8 ∧ w1.heap.size ≤ w'.heap.size ∧
    RepX (frame0 w) ⟨[(6, 0, .v (.bool (hasAct d))), (4, 0, .v v), (2, 0, .ptr 0 sB 0)], [(sB, true, .cells (stepC ⟨d, who, Ac.zero 0⟩ 0) 39)], 0, 0, 111, [], [], []⟩ a w'

theorem words_len (l : L8) : (words l).length ≤ l.length + 1 := by
  induction l with
  | nil => simp [words]
  | cons c l ih =>
    unfold words
    split
    · simp; omega
    · split
      · simp
      · rename_i h
        rw [h] at ih
        simp at ih ⊢
        omega

theorem laid_len : ∀ (fs : List Nat) (ws : List L8) (a : Ac), fs.length ≠ ws.length → laid fs ws a = none
  | [], [], _, h => absurd rfl h
  | [], _ :: _, _, _ => rfl
  | _ :: _, [], _, _ => rfl
  | k :: fs, x :: ws, a, h => by
    unfold laid
    cases numL x with
    | none => rfl
    | some n => exact laid_len fs ws _ (by simpa using h)
theorem flds_mem {d : Int} {k : Nat} (h : k ∈ flds d) : k = 1 ∨ k = 2 ∨ k = 3 ∨ k = 4 ∨ k = 5 ∨ k = 6 := by
  unfold flds at h
  repeat' split at h
  all_goals simp at h
  all_goals omega
def ReadL (F : Fr) (sB bB : Nat) (d who : Int) (d2 : Int) (ws : List L8) (n : Nat) (vw vf : Value) (m : Nat) (a : Act) (w' : World) : Prop :=
  ∃ (k : Nat) (ac : Ac), m = n - k ∧ k ≤ n ∧ ac.d = d2 ∧ 0 ≤ ac.by_ ∧ laid (flds d2) ws (Ac.zero d2) = laid ((flds d2).drop k) (ws.drop k) ac ∧
    RepX F ⟨[(85, 0, .v (.int .i64 k)), (84, 0, .v (.int .i64 n)), (83, 0, .v vw), (8, 0, .v vf), (7, 0, .ptr 1 bB 0), (2, 0, .ptr 0 sB 0)], [(sB, true, .cells (stepC ⟨d, who, ac⟩ 0) 39), (bB, true, .cells [.v (.int .i64 ac.by_)] 3)], 0, 0, 111, [], [], []⟩ a w'
/-- A pointer to a number, as the executor has it. -/
def ptrRow (sB bB : Nat) (kk : Nat) : List SV := [if kk = 5 then .ptr 1 bB 0 else .ptr 0 sB (2 + kk)]
theorem ptrRow_den (sB bB kk : Nat) : denL (pRow sB 2 bB kk) = denL (ptrRow sB bB kk) := by
  unfold pRow ptrRow
  by_cases h : kk = 5
  · simp [h, denL, den]
  · simp [h, denL, den]

set_option maxRecDepth 100000 in
set_option maxHeartbeats 16000000 in
/-- read. -/
theorem read_ok (w : World) (l : L8) (hl : l.length ≤ 200000) : Calls Tryd.prog 15 (denL [.v (.string (B l))]).toArray w fun e w' => ReadEnd l e ∧ Below w.heap.size w w' := by
  refine enter (F := frame0 w) Tryd.func15 rfl [.v (.string (B l))] [] (by simp [Tryd.f15]) trivial (keeps0 w) fun a hr => ?_
  refine seg cfg15_ok mixed PanicFree.body 1000 [] [] hr (by first | trivial | exact HpRep.nil | assumption) (by kernel_rfl) fun sB hsB => ?_
  simp (maxSteps := 10000000) [SX.vc, SX.stop, SX.contS, SX.contB, SX.contW, SX.contR, SX.contD, SX.sxStep, SX.stepPure, SX.stepNew, SX.stepStore, SX.stepKeep, SX.guardIx, SX.evOp, SX.opd, SX.opds, SX.optOpd, SX.look, SX.putS, SX.gobs, SX.AllP, SX.leave, SX.lookC, SX.lookB, SX.lookT, SX.lookN, SX.findK, SX.evBuiltin, SX.ints, SX.foldI, SX.evBin, SX.evInt, SX.evStr, SX.evEq, SX.arith, SX.evLoad, SX.shapeUp, SX.evFieldAddr, SX.evField, SX.evIndexAddr, SX.evIndex, SX.evFill, SX.evBuild, SX.szs, SX.cellsV, SX.evNew, SX.evStore, SX.spliceL, SX.SV.cells, SX.evConv, SX.evSlice, SX.bnd, SX.evNil, SX.evUn, SX.evPick, SX.pickOpd, SX.popTo, SX.cnd, SX.env0, SX.TD.isAgg, SX.TD.isIface, SX.tails, SX.NotAgg, SX.evLookup, SX.evConvH, SX.evPtrEq, SX.isCells, SX.thaw, SX.frz, SX.fixB, SX.rootIx, SX.Froz, SX.frzStep, SX.fork, Go.Value.cells, Go.undef, cfg15, Tryd.f15]
  refine ⟨by (unfold SX.Ob; first | trivial | omega | ((try simp only [SX.inK]); (try simp [SX.den, SX.IsU8, SX.AllP, *]); (try omega))), ?_⟩
  intro a1 w1 hr1 _
  refine post_call 24 [.v (.string (B l))] hr1 (by first | exact wanted_none rfl | exact wanted_zero (hr1.env.same rfl rfl rfl rfl) rfl (by simp) | exact wanted_zero (hr1.env.same rfl rfl rfl rfl) rfl (by simp [*])) rfl (callable 24 Tryd.func24) (words_ok w1 l (by omega)) ?_
  rintro e2 w2 ⟨⟨v, rfl, hW⟩, hb2⟩
  refine ⟨_, rfl, ?_⟩
  have h2 := hr1.ret hb2 12 (.v v) rfl _ (hr1.all.below hb2) (by simp) rfl
  have hW' : RdW (fun x => w1.heap.size ≤ x ∧ x < w2.heap.size) w2 v (words l) := hW.mono fun x h1 h2 => ⟨h2, h1⟩
  obtain ⟨x, r, hx⟩ : ∃ x r, words l = x :: r := by
    cases h : words l with
    | nil => exact absurd h (words_ne l)
    | cons x r => exact ⟨x, r, rfl⟩
  have hlen := words_len l
  rw [hx] at hW' hlen
  obtain ⟨b, o0, cap, u, fz, hP, hv, hrep⟩ := hW'.opn (show 0 < (x :: r).length by simp)
  obtain ⟨ln, hln⟩ : ∃ ln, (x :: r).length = ln := ⟨_, rfl⟩
  have hcap := hW'.cap hv
  rw [hln] at hv hrep hcap hlen
  have hpos : (0 : Int) < (ln : Int) := by simp at hln; omega
  have hln1 : 1 ≤ ln := by omega
  subst hv
  have hA2 := h2.all
  have z1 : sB < w1.heap.size := SO.rep_lt hr1.all.1.1
  have h2' := (h2.top 12 (.sl 1 b o0 0 ln cap 1) rfl (by simp [den])).see [(sB, true, .cells (stepC ⟨0, 0, Ac.zero 0⟩ 0) 39), (b, false, .arr o0 ln (fun j => wRow (nth [] (x :: r) j)) 1 u fz)] ⟨⟨hA2.1.1, hA2.1.2.1, by simp; omega⟩, HpAll.one hrep⟩
  have hx0 : nth ([] : L8) (x :: r) 0 = x := rfl
  refine seg cfg15_ok mixed PanicFree.body 1000 [] [] h2'.rebase (by first | trivial | exact HpRep.nil | assumption) (by kernel_rfl) fun s_ hs_ => ?_
  simp (maxSteps := 10000000) [SX.vc, SX.stop, SX.contS, SX.contB, SX.contW, SX.contR, SX.contD, SX.sxStep, SX.stepPure, SX.stepNew, SX.stepStore, SX.stepKeep, SX.guardIx, SX.evOp, SX.opd, SX.opds, SX.optOpd, SX.look, SX.putS, SX.gobs, SX.AllP, SX.leave, SX.lookC, SX.lookB, SX.lookT, SX.lookN, SX.findK, SX.evBuiltin, SX.ints, SX.foldI, SX.evBin, SX.evInt, SX.evStr, SX.evEq, SX.arith, SX.evLoad, SX.shapeUp, SX.evFieldAddr, SX.evField, SX.evIndexAddr, SX.evIndex, SX.evFill, SX.evBuild, SX.szs, SX.cellsV, SX.evNew, SX.evStore, SX.spliceL, SX.SV.cells, SX.evConv, SX.evSlice, SX.bnd, SX.evNil, SX.evUn, SX.evPick, SX.pickOpd, SX.popTo, SX.cnd, SX.env0, SX.TD.isAgg, SX.TD.isIface, SX.tails, SX.NotAgg, SX.evLookup, SX.evConvH, SX.evPtrEq, SX.isCells, SX.thaw, SX.frz, SX.fixB, SX.rootIx, SX.Froz, SX.frzStep, SX.fork, Go.Value.cells, Go.undef, cfg15, wRow, hx0, hpos, hln1]
  refine ⟨by (unfold SX.Ob; first | trivial | omega | ((try simp only [SX.inK]); (try simp [SX.den, SX.IsU8, SX.AllP, *]); (try omega))), ?_⟩
  intro a3 w3 hr3 ht3
  refine post_callD 17 [] hr3 rfl (by first | exact wanted_none rfl | exact wanted_zero (hr3.env.same rfl rfl rfl rfl) rfl (by simp) | exact wanted_zero (hr3.env.same rfl rfl rfl rfl) rfl (by simp [*])) rfl (callable 17 Tryd.func17) (stepWords_ok w3) ?_
  rintro e4 w4 ⟨⟨v4, rfl, hW4⟩, hb4⟩
  have ht4 := HpRep_below ht3 hb4
  refine ⟨_, rfl, ht4, ?_⟩
  have h4 := hr3.ret hb4 13 (.v v4) rfl _ (hr3.all.below hb4) (by simp) rfl
  have hd8 : findL stepW x ≤ 8 := findL_le _ _ _ (by decide)
  have hfind := find_ok w4 v4 stepW x (hW4.mono fun y h _ => h) (by decide)
  obtain ⟨d, hd⟩ : ∃ d, findL stepW x = d := ⟨_, rfl⟩
  rw [hd] at hfind hd8
  refine post_callD 25 [.v v4, .v (.string (B x))] h4 rfl (by first | exact wanted_none rfl | exact wanted_zero (h4.env.same rfl rfl rfl rfl) rfl (by simp) | exact wanted_zero (h4.env.same rfl rfl rfl rfl) rfl (by simp [*])) rfl (callable 25 Tryd.func25) (hfind) ?_
  rintro e5 w5 ⟨rfl, hb5⟩
  have ht5 := HpRep_below ht4 hb5
  refine ⟨_, rfl, ht5, ?_⟩
  have h5 := h4.ret hb5 17 (.v (.int .i64 d)) rfl _ (h4.all.below hb5) (by simp) rfl
  refine seg cfg15_ok mixed PanicFree.body 1000 [] [] h5 (by first | trivial | exact HpRep.nil | assumption) (by kernel_rfl) fun s_ hs_ => ?_
  simp (maxSteps := 10000000) [SX.vc, SX.stop, SX.contS, SX.contB, SX.contW, SX.contR, SX.contD, SX.sxStep, SX.stepPure, SX.stepNew, SX.stepStore, SX.stepKeep, SX.guardIx, SX.evOp, SX.opd, SX.opds, SX.optOpd, SX.look, SX.putS, SX.gobs, SX.AllP, SX.leave, SX.lookC, SX.lookB, SX.lookT, SX.lookN, SX.findK, SX.evBuiltin, SX.ints, SX.foldI, SX.evBin, SX.evInt, SX.evStr, SX.evEq, SX.arith, SX.evLoad, SX.shapeUp, SX.evFieldAddr, SX.evField, SX.evIndexAddr, SX.evIndex, SX.evFill, SX.evBuild, SX.szs, SX.cellsV, SX.evNew, SX.evStore, SX.spliceL, SX.SV.cells, SX.evConv, SX.evSlice, SX.bnd, SX.evNil, SX.evUn, SX.evPick, SX.pickOpd, SX.popTo, SX.cnd, SX.env0, SX.TD.isAgg, SX.TD.isIface, SX.tails, SX.NotAgg, SX.evLookup, SX.evConvH, SX.evPtrEq, SX.isCells, SX.thaw, SX.frz, SX.fixB, SX.rootIx, SX.Froz, SX.frzStep, SX.fork, Go.Value.cells, Go.undef, cfg15]
  refine ⟨by (unfold SX.Ob; first | trivial | omega | ((try simp only [SX.inK]); (try simp [SX.den, SX.IsU8, SX.AllP, *]); (try omega))), ?_⟩
  intro a6 w6 hr6 _
  refine post_call 18 [.v (.int .i64 d)] hr6 (by first | exact wanted_none rfl | exact wanted_zero (hr6.env.same rfl rfl rfl rfl) rfl (by simp) | exact wanted_zero (hr6.env.same rfl rfl rfl rfl) rfl (by simp [*])) rfl (callable 18 Tryd.func18) (has_ok w6 d) ?_
  rintro e7 w7 ⟨rfl, hb7⟩
  refine ⟨_, rfl, ?_⟩
  have h7 := hr6.ret hb7 22 (.tu [.v (.bool (hasWho d)), .v (.bool (hasAct d))]) rfl _ (hr6.all.below hb7) (by simp) rfl
  have hl1 : (1 : Int) ≤ (ln : Int) := by omega
  have hlc : (ln : Int) ≤ (cap : Int) := by omega
  refine seg cfg15_ok mixed PanicFree.body 1000 [] [] h7 (by first | trivial | exact HpRep.nil | assumption) (by kernel_rfl) fun s_ hs_ => ?_
  simp (maxSteps := 10000000) [SX.vc, SX.stop, SX.contS, SX.contB, SX.contW, SX.contR, SX.contD, SX.sxStep, SX.stepPure, SX.stepNew, SX.stepStore, SX.stepKeep, SX.guardIx, SX.evOp, SX.opd, SX.opds, SX.optOpd, SX.look, SX.putS, SX.gobs, SX.AllP, SX.leave, SX.lookC, SX.lookB, SX.lookT, SX.lookN, SX.findK, SX.evBuiltin, SX.ints, SX.foldI, SX.evBin, SX.evInt, SX.evStr, SX.evEq, SX.arith, SX.evLoad, SX.shapeUp, SX.evFieldAddr, SX.evField, SX.evIndexAddr, SX.evIndex, SX.evFill, SX.evBuild, SX.szs, SX.cellsV, SX.evNew, SX.evStore, SX.spliceL, SX.SV.cells, SX.evConv, SX.evSlice, SX.bnd, SX.evNil, SX.evUn, SX.evPick, SX.pickOpd, SX.popTo, SX.cnd, SX.env0, SX.TD.isAgg, SX.TD.isIface, SX.tails, SX.NotAgg, SX.evLookup, SX.evConvH, SX.evPtrEq, SX.isCells, SX.thaw, SX.frz, SX.fixB, SX.rootIx, SX.Froz, SX.frzStep, SX.fork, Go.Value.cells, Go.undef, cfg15, hl1, hlc]
  refine ⟨by (unfold SX.Ob; first | trivial | omega | ((try simp only [SX.inK]); (try simp [SX.den, SX.IsU8, SX.AllP, *]); (try omega))), ?_⟩
  intro a8 w8 hr8 _
  have hk8 := hr8.keeps
  have z2 : w1.heap.size ≤ w8.heap.size := by
    have h1 : w1.heap.size ≤ w2.heap.size := hb2.size
    have h2 : w2.heap.size ≤ w8.heap.size := hk8.size
    omega
  refine post_cut (ReadJ w w1 l sB) 1 rfl ?_ fun a_ w_ hJ => ?_
  · by_cases hd1 : d = 1
    · subst hd1
      have h9 := hr8.top 27 (.v (.bool false)) rfl (by simp [den, hasWho])
      refine seg cfg15_ok mixed PanicFree.body 1000 [false] [] h9 (by first | trivial | exact HpRep.nil | assumption) (by kernel_rfl) fun s_ hs_ => ?_
      simp (maxSteps := 10000000) [SX.vc, SX.stop, SX.contS, SX.contB, SX.contW, SX.contR, SX.contD, SX.sxStep, SX.stepPure, SX.stepNew, SX.stepStore, SX.stepKeep, SX.guardIx, SX.evOp, SX.opd, SX.opds, SX.optOpd, SX.look, SX.putS, SX.gobs, SX.AllP, SX.leave, SX.lookC, SX.lookB, SX.lookT, SX.lookN, SX.findK, SX.evBuiltin, SX.ints, SX.foldI, SX.evBin, SX.evInt, SX.evStr, SX.evEq, SX.arith, SX.evLoad, SX.shapeUp, SX.evFieldAddr, SX.evField, SX.evIndexAddr, SX.evIndex, SX.evFill, SX.evBuild, SX.szs, SX.cellsV, SX.evNew, SX.evStore, SX.spliceL, SX.SV.cells, SX.evConv, SX.evSlice, SX.bnd, SX.evNil, SX.evUn, SX.evPick, SX.pickOpd, SX.popTo, SX.cnd, SX.env0, SX.TD.isAgg, SX.TD.isIface, SX.tails, SX.NotAgg, SX.evLookup, SX.evConvH, SX.evPtrEq, SX.isCells, SX.thaw, SX.frz, SX.fixB, SX.rootIx, SX.Froz, SX.frzStep, SX.fork, Go.Value.cells, Go.undef, cfg15]
      refine ⟨by (unfold SX.Ob; first | trivial | omega | ((try simp only [SX.inK]); (try simp [SX.den, SX.IsU8, SX.AllP, *]); (try omega))), ?_⟩
      intro a10 w10 hr10 _
      have hrep10 := hr10.all.2.1.1
      have hA10 := (h2'.unbase hr10).all
      have z10 : w2.heap.size ≤ w10.heap.size := hr10.keeps.size
      have hT := rd_tail (i := 1) (P := fun x => w1.heap.size ≤ x ∧ x < w10.heap.size) (base := 0) (len := ln) ⟨hP.1, by omega⟩ hln hrep10 (by omega) hln1 hcap
      refine post_inv ⟨1, 0, r, _, readL_act hx hd rfl, by simp at hln; omega, hT, hd8, by omega, (h2'.unbase hr10).re (by simp [envTo, SX.look, den]) ⟨⟨hA10.1.1, hA10.1.2.1, by simp⟩, trivial⟩ rfl rfl⟩
    have hw1 : hasWho d = true := by
      unfold hasWho
      simp
      omega
    have h9 := hr8.top 27 (.v (.bool true)) rfl (by simp [den, hw1])
    cases r with
    | nil =>
      obtain rfl : ln = 1 := by simp at hln; omega
      refine seg cfg15_ok mixed PanicFree.body 1000 [true, true] [] h9 (by first | trivial | exact HpRep.nil | assumption) (by kernel_rfl) fun s_ hs_ => ?_
      simp (maxSteps := 10000000) [SX.vc, SX.stop, SX.contS, SX.contB, SX.contW, SX.contR, SX.contD, SX.sxStep, SX.stepPure, SX.stepNew, SX.stepStore, SX.stepKeep, SX.guardIx, SX.evOp, SX.opd, SX.opds, SX.optOpd, SX.look, SX.putS, SX.gobs, SX.AllP, SX.leave, SX.lookC, SX.lookB, SX.lookT, SX.lookN, SX.findK, SX.evBuiltin, SX.ints, SX.foldI, SX.evBin, SX.evInt, SX.evStr, SX.evEq, SX.arith, SX.evLoad, SX.shapeUp, SX.evFieldAddr, SX.evField, SX.evIndexAddr, SX.evIndex, SX.evFill, SX.evBuild, SX.szs, SX.cellsV, SX.evNew, SX.evStore, SX.spliceL, SX.SV.cells, SX.evConv, SX.evSlice, SX.bnd, SX.evNil, SX.evUn, SX.evPick, SX.pickOpd, SX.popTo, SX.cnd, SX.env0, SX.TD.isAgg, SX.TD.isIface, SX.tails, SX.NotAgg, SX.evLookup, SX.evConvH, SX.evPtrEq, SX.isCells, SX.thaw, SX.frz, SX.fixB, SX.rootIx, SX.Froz, SX.frzStep, SX.fork, Go.Value.cells, Go.undef, cfg15]
      refine ⟨by (unfold SX.Ob; first | trivial | omega | ((try simp only [SX.inK]); (try simp [SX.den, SX.IsU8, SX.AllP, *]); (try omega))), ?_⟩
      intro a10 w10 hr10 _
      exact post_retn (endC2 (h2'.unbase hr10) rfl rfl rfl tok39 rfl rfl ⟨⟨⟨d, 0, Ac.zero 0⟩, 0, false, rfl, .inr ⟨readL_none hx hd hw1, rfl⟩⟩, (h2'.unbase hr10).keeps.toBelow⟩).1
    | cons v1 r =>
      have hln2 : 2 ≤ ln := by simp at hln; omega
      have hc1 : ¬ cap = 1 := by omega
      have hp1 : (0 : Int) < ((ln - 1 : Nat) : Int) := by omega
      have hp0 : ¬ ((ln - 1 : Nat) : Int) = 0 := by omega
      have hx1 : nth ([] : L8) (x :: v1 :: r) 1 = v1 := rfl
      have hln3 : 1 < ln := by omega
      have hR := readL_who hx hd hw1
      refine seg cfg15_ok mixed PanicFree.body 1000 [true, false] [] h9 (by first | trivial | exact HpRep.nil | assumption) (by kernel_rfl) fun s_ hs_ => ?_
      simp (maxSteps := 10000000) [SX.vc, SX.stop, SX.contS, SX.contB, SX.contW, SX.contR, SX.contD, SX.sxStep, SX.stepPure, SX.stepNew, SX.stepStore, SX.stepKeep, SX.guardIx, SX.evOp, SX.opd, SX.opds, SX.optOpd, SX.look, SX.putS, SX.gobs, SX.AllP, SX.leave, SX.lookC, SX.lookB, SX.lookT, SX.lookN, SX.findK, SX.evBuiltin, SX.ints, SX.foldI, SX.evBin, SX.evInt, SX.evStr, SX.evEq, SX.arith, SX.evLoad, SX.shapeUp, SX.evFieldAddr, SX.evField, SX.evIndexAddr, SX.evIndex, SX.evFill, SX.evBuild, SX.szs, SX.cellsV, SX.evNew, SX.evStore, SX.spliceL, SX.SV.cells, SX.evConv, SX.evSlice, SX.bnd, SX.evNil, SX.evUn, SX.evPick, SX.pickOpd, SX.popTo, SX.cnd, SX.env0, SX.TD.isAgg, SX.TD.isIface, SX.tails, SX.NotAgg, SX.evLookup, SX.evConvH, SX.evPtrEq, SX.isCells, SX.thaw, SX.frz, SX.fixB, SX.rootIx, SX.Froz, SX.frzStep, SX.fork, Go.Value.cells, Go.undef, cfg15, hc1, hp1, hp0, hx1, hln3]
      refine ⟨by (unfold SX.Ob; first | trivial | omega | ((try simp only [SX.inK]); (try simp [SX.den, SX.IsU8, SX.AllP, *]); (try omega))), ?_⟩
      intro a10 w10 hr10 _
      cases hn : numL v1 with
      | none =>
        rw [hn] at hR
        refine post_call 10 [.v (.string (B v1))] hr10 (by first | exact wanted_none rfl | exact wanted_zero (hr10.env.same rfl rfl rfl rfl) rfl (by simp) | exact wanted_zero (hr10.env.same rfl rfl rfl rfl) rfl (by simp [*])) rfl (callable 10 Tryd.func10) (number_none w10 v1 hn) ?_
        rintro e11 w11 ⟨⟨n, rfl⟩, hb11⟩
        refine ⟨_, rfl, ?_⟩
        have h11 := hr10.ret hb11 36 (.tu [.v (.int .i64 n), .v (.bool false)]) rfl _ (hr10.all.below hb11) (by simp) rfl
        refine seg cfg15_ok mixed PanicFree.body 1000 [true] [] h11 (by first | trivial | exact HpRep.nil | assumption) (by kernel_rfl) fun s_ hs_ => ?_
        simp (maxSteps := 10000000) [SX.vc, SX.stop, SX.contS, SX.contB, SX.contW, SX.contR, SX.contD, SX.sxStep, SX.stepPure, SX.stepNew, SX.stepStore, SX.stepKeep, SX.guardIx, SX.evOp, SX.opd, SX.opds, SX.optOpd, SX.look, SX.putS, SX.gobs, SX.AllP, SX.leave, SX.lookC, SX.lookB, SX.lookT, SX.lookN, SX.findK, SX.evBuiltin, SX.ints, SX.foldI, SX.evBin, SX.evInt, SX.evStr, SX.evEq, SX.arith, SX.evLoad, SX.shapeUp, SX.evFieldAddr, SX.evField, SX.evIndexAddr, SX.evIndex, SX.evFill, SX.evBuild, SX.szs, SX.cellsV, SX.evNew, SX.evStore, SX.spliceL, SX.SV.cells, SX.evConv, SX.evSlice, SX.bnd, SX.evNil, SX.evUn, SX.evPick, SX.pickOpd, SX.popTo, SX.cnd, SX.env0, SX.TD.isAgg, SX.TD.isIface, SX.tails, SX.NotAgg, SX.evLookup, SX.evConvH, SX.evPtrEq, SX.isCells, SX.thaw, SX.frz, SX.fixB, SX.rootIx, SX.Froz, SX.frzStep, SX.fork, Go.Value.cells, Go.undef, cfg15]
        refine ⟨by (unfold SX.Ob; first | trivial | omega | ((try simp only [SX.inK]); (try simp [SX.den, SX.IsU8, SX.AllP, *]); (try omega))), ?_⟩
        intro a12 w12 hr12 _
        exact post_retn (endC2 (h2'.unbase hr12) rfl rfl rfl tok39 rfl rfl ⟨⟨⟨d, n, Ac.zero 0⟩, 0, false, rfl, .inr ⟨hR, rfl⟩⟩, (h2'.unbase hr12).keeps.toBelow⟩).1
      | some k =>
        rw [hn] at hR
        refine post_call 10 [.v (.string (B v1))] hr10 (by first | exact wanted_none rfl | exact wanted_zero (hr10.env.same rfl rfl rfl rfl) rfl (by simp) | exact wanted_zero (hr10.env.same rfl rfl rfl rfl) rfl (by simp [*])) rfl (callable 10 Tryd.func10) (number_some w10 v1 k hn) ?_
        rintro e11 w11 ⟨rfl, hb11⟩
        refine ⟨_, rfl, ?_⟩
        have h11 := hr10.ret hb11 36 (.tu [.v (.int .i64 k), .v (.bool true)]) rfl _ (hr10.all.below hb11) (by simp) rfl
        have hl2 : (1 : Int) ≤ ((ln - 1 : Nat) : Int) := by omega
        have hlc2 : ((ln - 1 : Nat) : Int) ≤ ((cap - 1 : Nat) : Int) := by omega
        refine seg cfg15_ok mixed PanicFree.body 1000 [false] [] h11 (by first | trivial | exact HpRep.nil | assumption) (by kernel_rfl) fun s_ hs_ => ?_
        simp (maxSteps := 10000000) [SX.vc, SX.stop, SX.contS, SX.contB, SX.contW, SX.contR, SX.contD, SX.sxStep, SX.stepPure, SX.stepNew, SX.stepStore, SX.stepKeep, SX.guardIx, SX.evOp, SX.opd, SX.opds, SX.optOpd, SX.look, SX.putS, SX.gobs, SX.AllP, SX.leave, SX.lookC, SX.lookB, SX.lookT, SX.lookN, SX.findK, SX.evBuiltin, SX.ints, SX.foldI, SX.evBin, SX.evInt, SX.evStr, SX.evEq, SX.arith, SX.evLoad, SX.shapeUp, SX.evFieldAddr, SX.evField, SX.evIndexAddr, SX.evIndex, SX.evFill, SX.evBuild, SX.szs, SX.cellsV, SX.evNew, SX.evStore, SX.spliceL, SX.SV.cells, SX.evConv, SX.evSlice, SX.bnd, SX.evNil, SX.evUn, SX.evPick, SX.pickOpd, SX.popTo, SX.cnd, SX.env0, SX.TD.isAgg, SX.TD.isIface, SX.tails, SX.NotAgg, SX.evLookup, SX.evConvH, SX.evPtrEq, SX.isCells, SX.thaw, SX.frz, SX.fixB, SX.rootIx, SX.Froz, SX.frzStep, SX.fork, Go.Value.cells, Go.undef, cfg15, hc1, hl2, hlc2]
        refine ⟨by (unfold SX.Ob; first | trivial | omega | ((try simp only [SX.inK]); (try simp [SX.den, SX.IsU8, SX.AllP, *]); (try omega))), ?_⟩
        intro a12 w12 hr12 _
        have hrep12 := hr12.all.2.1.1
        have hA12 := (h2'.unbase hr12).all
        have z12 : w2.heap.size ≤ w12.heap.size := hr12.keeps.size
        have hT := rd_tail (i := 1) (P := fun x => w1.heap.size ≤ x ∧ x < w12.heap.size) (base := 1) (len := ln - 1) (cap := cap - 1) ⟨hP.1, by omega⟩ hln hrep12 (by omega) (by omega) (by omega)
        rw [show (if cap - 1 = 1 then 1 else 1 + 1) = (if cap = 2 then 1 else 2) by split <;> split <;> omega] at hT
        refine post_inv ⟨d, k, r, _, hR, by simp at hln; omega, hT, hd8, by omega, (h2'.unbase hr12).re (by simp [envTo, SX.look, den]) ⟨⟨hA12.1.1, hA12.1.2.1, by simp⟩, trivial⟩ rfl rfl⟩
  obtain ⟨d, who, ws, v, hR, hws, hWs, hd, hz, hr9⟩ := hJ
  clear hr8 h2' hr hr1 h2 hA2 hW' hW hrep hb2 hx hlen
  obtain ⟨ad, cp, rfl⟩ := hWs.slice
  obtain ⟨m, hm⟩ : ∃ m, ws.length = m := ⟨_, rfl⟩
  rw [hm] at hWs hr9 hws
  have hbel := hr9.keeps.toBelow
  cases hA : hasAct d with
  | false =>
    rw [hA] at hr9
    have hRB : readB ws ⟨d, who, Ac.zero 0⟩ = if 0 < (d : Int) ∧ ws = [] then some ⟨d, who, Ac.zero 0⟩ else none := by
      unfold readB
      simp only [hA]
      rfl
    rw [hRB] at hR
    by_cases h0 : d = 0
    · subst h0
      refine seg cfg15_ok mixed PanicFree.body 1000 [true] [(51, false)] hr9 (by first | trivial | exact HpRep.nil | assumption) (by kernel_rfl) fun s_ hs_ => ?_
      simp (maxSteps := 10000000) [SX.vc, SX.stop, SX.contS, SX.contB, SX.contW, SX.contR, SX.contD, SX.sxStep, SX.stepPure, SX.stepNew, SX.stepStore, SX.stepKeep, SX.guardIx, SX.evOp, SX.opd, SX.opds, SX.optOpd, SX.look, SX.putS, SX.gobs, SX.AllP, SX.leave, SX.lookC, SX.lookB, SX.lookT, SX.lookN, SX.findK, SX.evBuiltin, SX.ints, SX.foldI, SX.evBin, SX.evInt, SX.evStr, SX.evEq, SX.arith, SX.evLoad, SX.shapeUp, SX.evFieldAddr, SX.evField, SX.evIndexAddr, SX.evIndex, SX.evFill, SX.evBuild, SX.szs, SX.cellsV, SX.evNew, SX.evStore, SX.spliceL, SX.SV.cells, SX.evConv, SX.evSlice, SX.bnd, SX.evNil, SX.evUn, SX.evPick, SX.pickOpd, SX.popTo, SX.cnd, SX.env0, SX.TD.isAgg, SX.TD.isIface, SX.tails, SX.NotAgg, SX.evLookup, SX.evConvH, SX.evPtrEq, SX.isCells, SX.thaw, SX.frz, SX.fixB, SX.rootIx, SX.Froz, SX.frzStep, SX.fork, Go.Value.cells, Go.undef, cfg15]
      refine ⟨by (unfold SX.Ob; first | trivial | omega | ((try simp only [SX.inK]); (try simp [SX.den, SX.IsU8, SX.AllP, *]); (try omega))), ?_⟩
      intro a10 w10 hr10 _
      exact post_retn (endC2 hr10 rfl rfl rfl tok39 rfl rfl ⟨⟨⟨_, who, Ac.zero 0⟩, 0, false, rfl, .inr ⟨by rw [hR]; simp, rfl⟩⟩, hr10.keeps.toBelow⟩).1
    · have hd0 : (0 : Int) < (d : Int) := by omega
      by_cases hm0 : m = 0
      · subst hm0
        have hw0 : ws = [] := List.length_eq_zero_iff.1 hm
        refine seg cfg15_ok mixed PanicFree.body 1000 [true] [(51, true)] hr9 (by first | trivial | exact HpRep.nil | assumption) (by kernel_rfl) fun s_ hs_ => ?_
        simp (maxSteps := 10000000) [SX.vc, SX.stop, SX.contS, SX.contB, SX.contW, SX.contR, SX.contD, SX.sxStep, SX.stepPure, SX.stepNew, SX.stepStore, SX.stepKeep, SX.guardIx, SX.evOp, SX.opd, SX.opds, SX.optOpd, SX.look, SX.putS, SX.gobs, SX.AllP, SX.leave, SX.lookC, SX.lookB, SX.lookT, SX.lookN, SX.findK, SX.evBuiltin, SX.ints, SX.foldI, SX.evBin, SX.evInt, SX.evStr, SX.evEq, SX.arith, SX.evLoad, SX.shapeUp, SX.evFieldAddr, SX.evField, SX.evIndexAddr, SX.evIndex, SX.evFill, SX.evBuild, SX.szs, SX.cellsV, SX.evNew, SX.evStore, SX.spliceL, SX.SV.cells, SX.evConv, SX.evSlice, SX.bnd, SX.evNil, SX.evUn, SX.evPick, SX.pickOpd, SX.popTo, SX.cnd, SX.env0, SX.TD.isAgg, SX.TD.isIface, SX.tails, SX.NotAgg, SX.evLookup, SX.evConvH, SX.evPtrEq, SX.isCells, SX.thaw, SX.frz, SX.fixB, SX.rootIx, SX.Froz, SX.frzStep, SX.fork, Go.Value.cells, Go.undef, cfg15, hd0]
        refine ⟨by (unfold SX.Ob; first | trivial | omega | ((try simp only [SX.inK]); (try simp [SX.den, SX.IsU8, SX.AllP, *]); (try omega))), ?_⟩
        intro a10 w10 hr10 _
        exact post_retn (endC2 hr10 rfl rfl rfl tok39 rfl rfl ⟨⟨⟨d, who, Ac.zero 0⟩, 0, true, rfl, .inl ⟨by rw [hR, if_pos ⟨hd0, hw0⟩], rfl, rfl⟩⟩, hr10.keeps.toBelow⟩).1
      · have hmi : ¬ (m : Int) = 0 := by omega
        have hw0 : ws ≠ [] := fun e => hm0 (by rw [← hm, e]; rfl)
        refine seg cfg15_ok mixed PanicFree.body 1000 [true] [(51, true)] hr9 (by first | trivial | exact HpRep.nil | assumption) (by kernel_rfl) fun s_ hs_ => ?_
        simp (maxSteps := 10000000) [SX.vc, SX.stop, SX.contS, SX.contB, SX.contW, SX.contR, SX.contD, SX.sxStep, SX.stepPure, SX.stepNew, SX.stepStore, SX.stepKeep, SX.guardIx, SX.evOp, SX.opd, SX.opds, SX.optOpd, SX.look, SX.putS, SX.gobs, SX.AllP, SX.leave, SX.lookC, SX.lookB, SX.lookT, SX.lookN, SX.findK, SX.evBuiltin, SX.ints, SX.foldI, SX.evBin, SX.evInt, SX.evStr, SX.evEq, SX.arith, SX.evLoad, SX.shapeUp, SX.evFieldAddr, SX.evField, SX.evIndexAddr, SX.evIndex, SX.evFill, SX.evBuild, SX.szs, SX.cellsV, SX.evNew, SX.evStore, SX.spliceL, SX.SV.cells, SX.evConv, SX.evSlice, SX.bnd, SX.evNil, SX.evUn, SX.evPick, SX.pickOpd, SX.popTo, SX.cnd, SX.env0, SX.TD.isAgg, SX.TD.isIface, SX.tails, SX.NotAgg, SX.evLookup, SX.evConvH, SX.evPtrEq, SX.isCells, SX.thaw, SX.frz, SX.fixB, SX.rootIx, SX.Froz, SX.frzStep, SX.fork, Go.Value.cells, Go.undef, cfg15, hd0, hmi]
        refine ⟨by (unfold SX.Ob; first | trivial | omega | ((try simp only [SX.inK]); (try simp [SX.den, SX.IsU8, SX.AllP, *]); (try omega))), ?_⟩
        intro a10 w10 hr10 _
        exact post_retn (endC2 hr10 rfl rfl rfl tok39 rfl rfl ⟨⟨⟨d, who, Ac.zero 0⟩, 0, _, rfl, .inr ⟨by rw [hR, if_neg (fun h => hw0 h.2)], by simp [hm0]⟩⟩, hr10.keeps.toBelow⟩).1
  | true =>
    rw [hA] at hr9
    have hRB : readB ws ⟨d, who, Ac.zero 0⟩ = readA ws ⟨d, who, Ac.zero 0⟩ := by
      unfold readB
      simp only [hA]
      rfl
    rw [hRB] at hR
    cases ws with
    | nil =>
      obtain rfl : m = 0 := by simp at hm; omega
      refine seg cfg15_ok mixed PanicFree.body 1000 [false, true] [] hr9 (by first | trivial | exact HpRep.nil | assumption) (by kernel_rfl) fun s_ hs_ => ?_
      simp (maxSteps := 10000000) [SX.vc, SX.stop, SX.contS, SX.contB, SX.contW, SX.contR, SX.contD, SX.sxStep, SX.stepPure, SX.stepNew, SX.stepStore, SX.stepKeep, SX.guardIx, SX.evOp, SX.opd, SX.opds, SX.optOpd, SX.look, SX.putS, SX.gobs, SX.AllP, SX.leave, SX.lookC, SX.lookB, SX.lookT, SX.lookN, SX.findK, SX.evBuiltin, SX.ints, SX.foldI, SX.evBin, SX.evInt, SX.evStr, SX.evEq, SX.arith, SX.evLoad, SX.shapeUp, SX.evFieldAddr, SX.evField, SX.evIndexAddr, SX.evIndex, SX.evFill, SX.evBuild, SX.szs, SX.cellsV, SX.evNew, SX.evStore, SX.spliceL, SX.SV.cells, SX.evConv, SX.evSlice, SX.bnd, SX.evNil, SX.evUn, SX.evPick, SX.pickOpd, SX.popTo, SX.cnd, SX.env0, SX.TD.isAgg, SX.TD.isIface, SX.tails, SX.NotAgg, SX.evLookup, SX.evConvH, SX.evPtrEq, SX.isCells, SX.thaw, SX.frz, SX.fixB, SX.rootIx, SX.Froz, SX.frzStep, SX.fork, Go.Value.cells, Go.undef, cfg15]
      refine ⟨by (unfold SX.Ob; first | trivial | omega | ((try simp only [SX.inK]); (try simp [SX.den, SX.IsU8, SX.AllP, *]); (try omega))), ?_⟩
      intro a10 w10 hr10 _
      exact post_retn (endC2 hr10 rfl rfl rfl tok39 rfl rfl ⟨⟨⟨d, who, Ac.zero 0⟩, 0, false, rfl, .inr ⟨hR, rfl⟩⟩, hr10.keeps.toBelow⟩).1
    | cons x2 ws =>
      have hm1 : 1 ≤ m := by simp at hm; omega
      have hm0 : ¬ (m : Int) = 0 := by omega
      have hmp : (0 : Int) < (m : Int) := by omega
      obtain ⟨b, o0, cap, u, fz, hP, hv, hrep⟩ := hWs.opn (show 0 < (x2 :: ws).length by simp)
      have hcap := hWs.cap hv
      rw [hm] at hv hrep hcap
      cases hv
      have hA9 := hr9.all
      have hx2 : nth ([] : L8) (x2 :: ws) 0 = x2 := rfl
      have hml : (1 : Int) ≤ (m : Int) := by omega
      have hmc : (m : Int) ≤ (cp : Int) := by omega
      have h10 := (hr9.top 4 (.sl 1 b o0 0 m cp 1) rfl (by simp [den])).see [(sB, true, .cells (stepC ⟨d, who, Ac.zero 0⟩ 0) 39), (b, false, .arr o0 m (fun j => wRow (nth [] (x2 :: ws) j)) 1 u fz)] ⟨⟨hA9.1.1, hA9.1.2.1, by simp; omega⟩, HpAll.one hrep⟩
      refine seg cfg15_ok mixed PanicFree.body 1000 [false, false] [] h10.rebase (by first | trivial | exact HpRep.nil | assumption) (by kernel_rfl) fun s_ hs_ => ?_
      simp (maxSteps := 10000000) [SX.vc, SX.stop, SX.contS, SX.contB, SX.contW, SX.contR, SX.contD, SX.sxStep, SX.stepPure, SX.stepNew, SX.stepStore, SX.stepKeep, SX.guardIx, SX.evOp, SX.opd, SX.opds, SX.optOpd, SX.look, SX.putS, SX.gobs, SX.AllP, SX.leave, SX.lookC, SX.lookB, SX.lookT, SX.lookN, SX.findK, SX.evBuiltin, SX.ints, SX.foldI, SX.evBin, SX.evInt, SX.evStr, SX.evEq, SX.arith, SX.evLoad, SX.shapeUp, SX.evFieldAddr, SX.evField, SX.evIndexAddr, SX.evIndex, SX.evFill, SX.evBuild, SX.szs, SX.cellsV, SX.evNew, SX.evStore, SX.spliceL, SX.SV.cells, SX.evConv, SX.evSlice, SX.bnd, SX.evNil, SX.evUn, SX.evPick, SX.pickOpd, SX.popTo, SX.cnd, SX.env0, SX.TD.isAgg, SX.TD.isIface, SX.tails, SX.NotAgg, SX.evLookup, SX.evConvH, SX.evPtrEq, SX.isCells, SX.thaw, SX.frz, SX.fixB, SX.rootIx, SX.Froz, SX.frzStep, SX.fork, Go.Value.cells, Go.undef, cfg15, wRow, hx2, hm0, hmp, hm1]
      refine ⟨by (unfold SX.Ob; first | trivial | omega | ((try simp only [SX.inK]); (try simp [SX.den, SX.IsU8, SX.AllP, *]); (try omega))), ?_⟩
      intro a11 w11 hr11 ht11
      refine post_callD 26 [] hr11 rfl (by first | exact wanted_none rfl | exact wanted_zero (hr11.env.same rfl rfl rfl rfl) rfl (by simp) | exact wanted_zero (hr11.env.same rfl rfl rfl rfl) rfl (by simp [*])) rfl (callable 26 Tryd.func26) (actWords_ok w11) ?_
      rintro e12 w12 ⟨⟨v12, rfl, hW12⟩, hb12⟩
      have ht12 := HpRep_below ht11 hb12
      refine ⟨_, rfl, ht12, ?_⟩
      have h12 := hr11.ret hb12 60 (.v v12) rfl _ (hr11.all.below hb12) (by simp) rfl
      have hfind := find_ok w12 v12 actW x2 (hW12.mono fun y h _ => h) (by decide)
      have hd12 : findL actW x2 ≤ 12 := findL_le _ _ _ (by decide)
      obtain ⟨d2, hd2⟩ : ∃ d2, findL actW x2 = d2 := ⟨_, rfl⟩
      rw [hd2] at hfind hd12
      have hRA : readA (x2 :: ws) ⟨d, who, Ac.zero 0⟩ = if (d2 : Int) = 0 then none else match laid (flds d2) ws (Ac.zero d2) with
          | some a => if a.by_ < 256 then some ⟨d, who, a⟩ else none
          | none => none := by
        unfold readA
        simp only [hd2]
        split
        · rfl
        · cases laid (flds (d2 : Int)) ws (Ac.zero d2) <;> rfl
      rw [hRA] at hR
      refine post_callD 25 [.v v12, .v (.string (B x2))] h12 rfl (by first | exact wanted_none rfl | exact wanted_zero (h12.env.same rfl rfl rfl rfl) rfl (by simp) | exact wanted_zero (h12.env.same rfl rfl rfl rfl) rfl (by simp [*])) rfl (callable 25 Tryd.func25) (hfind) ?_
      rintro e13 w13 ⟨rfl, hb13⟩
      have ht13 := HpRep_below ht12 hb13
      refine ⟨_, rfl, ht13, ?_⟩
      have h13 := h12.ret hb13 64 (.v (.int .i64 d2)) rfl _ (h12.all.below hb13) (by simp) rfl
      refine seg cfg15_ok mixed PanicFree.body 1000 [] [] h13 (by first | trivial | exact HpRep.nil | assumption) (by kernel_rfl) fun bB hbB => ?_
      simp (maxSteps := 10000000) [SX.vc, SX.stop, SX.contS, SX.contB, SX.contW, SX.contR, SX.contD, SX.sxStep, SX.stepPure, SX.stepNew, SX.stepStore, SX.stepKeep, SX.guardIx, SX.evOp, SX.opd, SX.opds, SX.optOpd, SX.look, SX.putS, SX.gobs, SX.AllP, SX.leave, SX.lookC, SX.lookB, SX.lookT, SX.lookN, SX.findK, SX.evBuiltin, SX.ints, SX.foldI, SX.evBin, SX.evInt, SX.evStr, SX.evEq, SX.arith, SX.evLoad, SX.shapeUp, SX.evFieldAddr, SX.evField, SX.evIndexAddr, SX.evIndex, SX.evFill, SX.evBuild, SX.szs, SX.cellsV, SX.evNew, SX.evStore, SX.spliceL, SX.SV.cells, SX.evConv, SX.evSlice, SX.bnd, SX.evNil, SX.evUn, SX.evPick, SX.pickOpd, SX.popTo, SX.cnd, SX.env0, SX.TD.isAgg, SX.TD.isIface, SX.tails, SX.NotAgg, SX.evLookup, SX.evConvH, SX.evPtrEq, SX.isCells, SX.thaw, SX.frz, SX.fixB, SX.rootIx, SX.Froz, SX.frzStep, SX.fork, Go.Value.cells, Go.undef, cfg15, hml, hmc]
      refine ⟨by (unfold SX.Ob; first | trivial | omega | ((try simp only [SX.inK]); (try simp [SX.den, SX.IsU8, SX.AllP, *]); (try omega))), ?_⟩
      intro a14 w14 hr14 _
      have hA14 := hr14.all
      have zB0 : w_.heap.size ≤ w13.heap.size := h13.keeps.size
      have zB : w_.heap.size ≤ bB := by omega
      have zBl : bB < w14.heap.size := SO.rep_lt hA14.2.2.1.1
      have z14 : w_.heap.size ≤ w14.heap.size := hr14.keeps.size
      have hT := rd_tail (i := 1) (P := fun x => w1.heap.size ≤ x ∧ x < w_.heap.size) (base := 0) (len := m) hP hm hA14.2.1.1 (by omega) hm1 hcap
      have hk14 := hr14.keeps
      refine post_call 27 [.ptr 0 sB 2, .ptr 2 bB 0] hr14 (by first | exact wanted_none rfl | exact wanted_zero (hr14.env.same rfl rfl rfl rfl) rfl (by simp) | exact wanted_zero (hr14.env.same rfl rfl rfl rfl) rfl (by simp [*])) rfl (callable 27 Tryd.func27) (fields2_ok w14 sB bB _ _ _ _ _ _ _ _ _ hA14.1.1) ?_
      rintro e15 w15 ⟨⟨v15, rfl, hF⟩, hb15⟩
      refine ⟨_, rfl, ?_⟩
      have h15 := hr14.ret hb15 70 (.v v15) rfl _ (hr14.all.below hb15) (by simp) rfl
      obtain ⟨fad, fcp, rfl⟩ := hF.slice
      obtain ⟨fn, hfn⟩ : ∃ fn, (flds (d2 : Int)).length = fn := ⟨_, rfl⟩
      rw [hfn] at hF
      have h15' := h15.top 70 (.v (.slice fad fn fcp)) rfl (by rw [hfn])
      by_cases hd0 : d2 = 0
      · subst hd0
        refine seg cfg15_ok mixed PanicFree.body 1000 [true] [(75, true)] h15' (by first | trivial | exact HpRep.nil | assumption) (by kernel_rfl) fun s_ hs_ => ?_
        simp (maxSteps := 10000000) [SX.vc, SX.stop, SX.contS, SX.contB, SX.contW, SX.contR, SX.contD, SX.sxStep, SX.stepPure, SX.stepNew, SX.stepStore, SX.stepKeep, SX.guardIx, SX.evOp, SX.opd, SX.opds, SX.optOpd, SX.look, SX.putS, SX.gobs, SX.AllP, SX.leave, SX.lookC, SX.lookB, SX.lookT, SX.lookN, SX.findK, SX.evBuiltin, SX.ints, SX.foldI, SX.evBin, SX.evInt, SX.evStr, SX.evEq, SX.arith, SX.evLoad, SX.shapeUp, SX.evFieldAddr, SX.evField, SX.evIndexAddr, SX.evIndex, SX.evFill, SX.evBuild, SX.szs, SX.cellsV, SX.evNew, SX.evStore, SX.spliceL, SX.SV.cells, SX.evConv, SX.evSlice, SX.bnd, SX.evNil, SX.evUn, SX.evPick, SX.pickOpd, SX.popTo, SX.cnd, SX.env0, SX.TD.isAgg, SX.TD.isIface, SX.tails, SX.NotAgg, SX.evLookup, SX.evConvH, SX.evPtrEq, SX.isCells, SX.thaw, SX.frz, SX.fixB, SX.rootIx, SX.Froz, SX.frzStep, SX.fork, Go.Value.cells, Go.undef, cfg15]
        refine ⟨by (unfold SX.Ob; first | trivial | omega | ((try simp only [SX.inK]); (try simp [SX.den, SX.IsU8, SX.AllP, *]); (try omega))), ?_⟩
        intro a16 w16 hr16 _
        exact post_retn (endC2 (h10.unbase hr16) rfl rfl rfl tok39 rfl rfl ⟨⟨⟨d, who, Ac.zero 0⟩, 0, false, rfl, .inr ⟨hR, rfl⟩⟩, (h10.unbase hr16).keeps.toBelow⟩).1
      have hd0i : ¬ (d2 : Int) = 0 := by omega
      rw [if_neg hd0i] at hR
      have hwl : ws.length = m - 1 := by simp at hm; omega
      by_cases hlen : fn = m - 1
      rotate_left
      · have hli : ¬ (fn : Int) = ((m - 1 : Nat) : Int) := by omega
        rw [laid_len _ _ _ (by omega)] at hR
        refine seg cfg15_ok mixed PanicFree.body 1000 [true] [(75, false)] h15' (by first | trivial | exact HpRep.nil | assumption) (by kernel_rfl) fun s_ hs_ => ?_
        simp (maxSteps := 10000000) [SX.vc, SX.stop, SX.contS, SX.contB, SX.contW, SX.contR, SX.contD, SX.sxStep, SX.stepPure, SX.stepNew, SX.stepStore, SX.stepKeep, SX.guardIx, SX.evOp, SX.opd, SX.opds, SX.optOpd, SX.look, SX.putS, SX.gobs, SX.AllP, SX.leave, SX.lookC, SX.lookB, SX.lookT, SX.lookN, SX.findK, SX.evBuiltin, SX.ints, SX.foldI, SX.evBin, SX.evInt, SX.evStr, SX.evEq, SX.arith, SX.evLoad, SX.shapeUp, SX.evFieldAddr, SX.evField, SX.evIndexAddr, SX.evIndex, SX.evFill, SX.evBuild, SX.szs, SX.cellsV, SX.evNew, SX.evStore, SX.spliceL, SX.SV.cells, SX.evConv, SX.evSlice, SX.bnd, SX.evNil, SX.evUn, SX.evPick, SX.pickOpd, SX.popTo, SX.cnd, SX.env0, SX.TD.isAgg, SX.TD.isIface, SX.tails, SX.NotAgg, SX.evLookup, SX.evConvH, SX.evPtrEq, SX.isCells, SX.thaw, SX.frz, SX.fixB, SX.rootIx, SX.Froz, SX.frzStep, SX.fork, Go.Value.cells, Go.undef, cfg15, hd0i, hli]
        refine ⟨by (unfold SX.Ob; first | trivial | omega | ((try simp only [SX.inK]); (try simp [SX.den, SX.IsU8, SX.AllP, *]); (try omega))), ?_⟩
        intro a16 w16 hr16 _
        exact post_retn (endC2 (h10.unbase hr16) rfl rfl rfl tok39 rfl rfl ⟨⟨⟨d, who, Ac.zero d2⟩, 0, false, rfl, .inr ⟨hR, rfl⟩⟩, (h10.unbase hr16).keeps.toBelow⟩).1
      subst hlen
      have hli : ((m - 1 : Nat) : Int) = ((m - 1 : Nat) : Int) := rfl
      refine seg cfg15_ok mixed PanicFree.body 1000 [false] [(75, false)] h15'.rebase (by first | trivial | exact HpRep.nil | assumption) (by kernel_rfl) fun s_ hs_ => ?_
      simp (maxSteps := 10000000) [SX.vc, SX.stop, SX.contS, SX.contB, SX.contW, SX.contR, SX.contD, SX.sxStep, SX.stepPure, SX.stepNew, SX.stepStore, SX.stepKeep, SX.guardIx, SX.evOp, SX.opd, SX.opds, SX.optOpd, SX.look, SX.putS, SX.gobs, SX.AllP, SX.leave, SX.lookC, SX.lookB, SX.lookT, SX.lookN, SX.findK, SX.evBuiltin, SX.ints, SX.foldI, SX.evBin, SX.evInt, SX.evStr, SX.evEq, SX.arith, SX.evLoad, SX.shapeUp, SX.evFieldAddr, SX.evField, SX.evIndexAddr, SX.evIndex, SX.evFill, SX.evBuild, SX.szs, SX.cellsV, SX.evNew, SX.evStore, SX.spliceL, SX.SV.cells, SX.evConv, SX.evSlice, SX.bnd, SX.evNil, SX.evUn, SX.evPick, SX.pickOpd, SX.popTo, SX.cnd, SX.env0, SX.TD.isAgg, SX.TD.isIface, SX.tails, SX.NotAgg, SX.evLookup, SX.evConvH, SX.evPtrEq, SX.isCells, SX.thaw, SX.frz, SX.fixB, SX.rootIx, SX.Froz, SX.frzStep, SX.fork, Go.Value.cells, Go.undef, cfg15, hd0i]
      refine ⟨by (unfold SX.Ob; first | trivial | omega | ((try simp only [SX.inK]); (try simp [SX.den, SX.IsU8, SX.AllP, *]); (try omega))), ?_⟩
      intro a16 w16 hr16' _
      have hr16 := h10.unbase (h15'.unbase hr16')
      have hF16 := (hF.mono (P' := fun x => w14.heap.size ≤ x ∧ x < w15.heap.size) fun x h1 h2 => ⟨h2.1, h1⟩).keep hr16'.keeps (by simp [frameAt, mutB]; omega)
      have hA16 := hr16.all
      have hT16 := rd_tail (i := 1) (P := fun x => w1.heap.size ≤ x ∧ x < w_.heap.size) (base := 0) (len := m) hP hm hA16.2.1.1 (by omega) hm1 hcap
      have hws1 : (x2 :: ws).drop (0 + 1) = ws := rfl
      rw [hws1] at hT16
      obtain ⟨adw, cpw, hvw⟩ := hT16.slice
      rw [hwl] at hvw
      rw [hvw] at hT16
      have h17 := ((hr16.top 83 (.v (.slice adw (m - 1) cpw)) rfl (by rw [den, ← hvw])).re (st' := ⟨[(85, 0, .v (.int .i64 (0 : Nat))), (84, 0, .v (.int .i64 (m - 1 : Nat))), (83, 0, .v (.slice adw (m - 1) cpw)), (8, 0, .v (.slice fad (m - 1) fcp)), (7, 0, .ptr 1 bB 0), (2, 0, .ptr 0 sB 0)], [(sB, true, .cells (stepC ⟨d, who, Ac.zero d2⟩ 0) 39), (bB, true, .cells [.v (.int .i64 (Ac.zero d2).by_)] 3)], 0, 0, 111, [], [], []⟩) (by simp [envTo, SX.look, den]) ⟨⟨hA16.1.1, hA16.1.2.1, by simp; omega⟩, ⟨⟨hA16.2.2.1.1, hA16.2.2.1.2.1, by simp⟩, trivial⟩⟩ rfl rfl)
      have zz : w1.heap.size ≤ w_.heap.size := hz
      have z16 : w15.heap.size ≤ w16.heap.size := hr16'.keeps.size
      have z15 : w14.heap.size ≤ w15.heap.size := hb15.size
      refine post_loop (ReadL (frameAt w16 [(sB, true, .cells (stepC ⟨d, who, Ac.zero d2⟩ 0) 39), (bB, true, .cells [.v (.int .i64 (Ac.zero d2).by_)] 3)]) sB bB d who d2 ws (m - 1) (.slice adw (m - 1) cpw) (.slice fad (m - 1) fcp)) _ ⟨0, Ac.zero d2, rfl, by omega, rfl, Int.le_refl 0, rfl, h17.rebase⟩ ?_
      clear hr16' hr16 h15 h15' hr14 h13 h12 hr11 h10 hr9 hA9 hA14 hA16 hT hF hk14 hrep hfind ht11 ht12 ht13
      rintro mm a18 w18 ⟨k, ac, rfl, hk, hacd, hby, hlaid, hr18⟩
      have hF18 := hF16.keep hr18.keeps (by simp [frameAt, mutB]; omega)
      have hT18 := hT16.keep hr18.keeps (by simp [frameAt, mutB]; omega)
      obtain ⟨n, hn⟩ : ∃ n, m - 1 = n := ⟨_, rfl⟩
      rw [hn] at hk hfn hF18 hT18 hwl hr18 ⊢
      have hA18 := hr18.all
      by_cases hlt : k < n
      · obtain ⟨fb, fo, fc, fu, ffz, hfP, hfv, hfrep⟩ := hF18.opn (show k < (flds (d2 : Int)).length by omega)
        rw [hfn] at hfv hfrep
        cases hfv
        obtain ⟨wb, wo, wc, wu, wfz, hwP, hwv, hwrep⟩ := hT18.opn (show k < ws.length by omega)
        rw [hwl] at hwv hwrep
        cases hwv
        obtain ⟨kk, hkk⟩ : ∃ kk, nth (0 : Nat) (flds (d2 : Int)) k = kk := ⟨_, rfl⟩
        obtain ⟨y, hy⟩ : ∃ y, nth ([] : L8) ws k = y := ⟨_, rfl⟩
        have hkm : kk ∈ flds (d2 : Int) := by rw [← hkk]; exact nth_mem (by omega)
        rw [drop_nth (d := (0 : Nat)) (show k < (flds (d2 : Int)).length by omega), drop_nth (d := ([] : L8)) (show k < ws.length by omega), hkk, hy] at hlaid
        have hfrep' := rep_arr_sub (row' := fun j => ptrRow sB bB (nth 0 (flds (d2 : Int)) j)) hfrep (Nat.le_refl _) fun j _ => ptrRow_den sB bB _
        have h19 := ((hr18.top 8 (.sl 2 fb fo 0 n fcp 1) rfl (by simp [den])).top 83 (.sl 3 wb wo 0 n cpw 1) rfl (by simp [den])).see [(sB, true, .cells (stepC ⟨d, who, ac⟩ 0) 39), (bB, true, .cells [.v (.int .i64 ac.by_)] 3), (fb, false, .arr fo n (fun j => ptrRow sB bB (nth 0 (flds (d2 : Int)) j)) 1 fu ffz), (wb, false, .arr wo n (fun j => wRow (nth [] ws j)) 1 wu wfz)] ⟨⟨hA18.1.1, hA18.1.2.1, by simp; omega⟩, ⟨hA18.2.1.1, hA18.2.1.2.1, by simp; omega⟩, ⟨hfrep', by simp, by simp; omega⟩, ⟨hwrep, by simp, by simp⟩, trivial⟩
        have hlk : (k : Int) < (n : Int) := by omega
        clear hfrep hwrep hF18 hT18
        rcases flds_mem hkm with rfl | rfl | rfl | rfl | rfl | rfl
        · cases hnum : numL y with
          | none =>
            have hR2 : readL l = none := by
              rw [hR, hlaid]
              simp [laid, hnum]
            refine seg cfg15_ok mixed PanicFree.body 1000 [true] [] h19 (by first | trivial | exact HpRep.nil | assumption) (by kernel_rfl) fun s_ hs_ => ?_
            simp (maxSteps := 10000000) [SX.vc, SX.stop, SX.contS, SX.contB, SX.contW, SX.contR, SX.contD, SX.sxStep, SX.stepPure, SX.stepNew, SX.stepStore, SX.stepKeep, SX.guardIx, SX.evOp, SX.opd, SX.opds, SX.optOpd, SX.look, SX.putS, SX.gobs, SX.AllP, SX.leave, SX.lookC, SX.lookB, SX.lookT, SX.lookN, SX.findK, SX.evBuiltin, SX.ints, SX.foldI, SX.evBin, SX.evInt, SX.evStr, SX.evEq, SX.arith, SX.evLoad, SX.shapeUp, SX.evFieldAddr, SX.evField, SX.evIndexAddr, SX.evIndex, SX.evFill, SX.evBuild, SX.szs, SX.cellsV, SX.evNew, SX.evStore, SX.spliceL, SX.SV.cells, SX.evConv, SX.evSlice, SX.bnd, SX.evNil, SX.evUn, SX.evPick, SX.pickOpd, SX.popTo, SX.cnd, SX.env0, SX.TD.isAgg, SX.TD.isIface, SX.tails, SX.NotAgg, SX.evLookup, SX.evConvH, SX.evPtrEq, SX.isCells, SX.thaw, SX.frz, SX.fixB, SX.rootIx, SX.Froz, SX.frzStep, SX.fork, Go.Value.cells, Go.undef, cfg15, ptrRow, wRow, hkk, hy, hlk, hlt]
            refine ⟨by (unfold SX.Ob; first | trivial | omega | ((try simp only [SX.inK]); (try simp [SX.den, SX.IsU8, SX.AllP, *]); (try omega))), ?_⟩
            intro a20 w20 hr20 ht20
            refine post_callD 10 [.v (.string (B y))] hr20 rfl (by first | exact wanted_none rfl | exact wanted_zero (hr20.env.same rfl rfl rfl rfl) rfl (by simp) | exact wanted_zero (hr20.env.same rfl rfl rfl rfl) rfl (by simp [*])) rfl (callable 10 Tryd.func10) (number_none w20 y hnum) ?_
            rintro e21 w21 ⟨⟨q, rfl⟩, hb21⟩
            have ht21 := HpRep_below ht20 hb21
            refine ⟨_, rfl, ht21, ?_⟩
            have h21 := hr20.ret hb21 96 (.tu [.v (.int .i64 q), .v (.bool false)]) rfl _ (hr20.all.below hb21) (by simp) rfl
            refine seg cfg15_ok mixed PanicFree.body 1000 [true] [] h21 (by first | trivial | exact HpRep.nil | assumption) (by kernel_rfl) fun s_ hs_ => ?_
            simp (maxSteps := 10000000) [SX.vc, SX.stop, SX.contS, SX.contB, SX.contW, SX.contR, SX.contD, SX.sxStep, SX.stepPure, SX.stepNew, SX.stepStore, SX.stepKeep, SX.guardIx, SX.evOp, SX.opd, SX.opds, SX.optOpd, SX.look, SX.putS, SX.gobs, SX.AllP, SX.leave, SX.lookC, SX.lookB, SX.lookT, SX.lookN, SX.findK, SX.evBuiltin, SX.ints, SX.foldI, SX.evBin, SX.evInt, SX.evStr, SX.evEq, SX.arith, SX.evLoad, SX.shapeUp, SX.evFieldAddr, SX.evField, SX.evIndexAddr, SX.evIndex, SX.evFill, SX.evBuild, SX.szs, SX.cellsV, SX.evNew, SX.evStore, SX.spliceL, SX.SV.cells, SX.evConv, SX.evSlice, SX.bnd, SX.evNil, SX.evUn, SX.evPick, SX.pickOpd, SX.popTo, SX.cnd, SX.env0, SX.TD.isAgg, SX.TD.isIface, SX.tails, SX.NotAgg, SX.evLookup, SX.evConvH, SX.evPtrEq, SX.isCells, SX.thaw, SX.frz, SX.fixB, SX.rootIx, SX.Froz, SX.frzStep, SX.fork, Go.Value.cells, Go.undef, cfg15]
            refine ⟨by (unfold SX.Ob; first | trivial | omega | ((try simp only [SX.inK]); (try simp [SX.den, SX.IsU8, SX.AllP, *]); (try omega))), ?_⟩
            intro a22 w22 hr22 _
            exact post_retn (endC2 (h17.unbase hr22) rfl rfl rfl tok39 rfl rfl ⟨⟨⟨d, who, ac.set 1 q⟩, 0, false, rfl, .inr ⟨hR2, rfl⟩⟩, (h17.unbase hr22).keeps.toBelow⟩).1
          | some q =>
            refine seg cfg15_ok mixed PanicFree.body 1000 [true] [] h19 (by first | trivial | exact HpRep.nil | assumption) (by kernel_rfl) fun s_ hs_ => ?_
            simp (maxSteps := 10000000) [SX.vc, SX.stop, SX.contS, SX.contB, SX.contW, SX.contR, SX.contD, SX.sxStep, SX.stepPure, SX.stepNew, SX.stepStore, SX.stepKeep, SX.guardIx, SX.evOp, SX.opd, SX.opds, SX.optOpd, SX.look, SX.putS, SX.gobs, SX.AllP, SX.leave, SX.lookC, SX.lookB, SX.lookT, SX.lookN, SX.findK, SX.evBuiltin, SX.ints, SX.foldI, SX.evBin, SX.evInt, SX.evStr, SX.evEq, SX.arith, SX.evLoad, SX.shapeUp, SX.evFieldAddr, SX.evField, SX.evIndexAddr, SX.evIndex, SX.evFill, SX.evBuild, SX.szs, SX.cellsV, SX.evNew, SX.evStore, SX.spliceL, SX.SV.cells, SX.evConv, SX.evSlice, SX.bnd, SX.evNil, SX.evUn, SX.evPick, SX.pickOpd, SX.popTo, SX.cnd, SX.env0, SX.TD.isAgg, SX.TD.isIface, SX.tails, SX.NotAgg, SX.evLookup, SX.evConvH, SX.evPtrEq, SX.isCells, SX.thaw, SX.frz, SX.fixB, SX.rootIx, SX.Froz, SX.frzStep, SX.fork, Go.Value.cells, Go.undef, cfg15, ptrRow, wRow, hkk, hy, hlk, hlt]
            refine ⟨by (unfold SX.Ob; first | trivial | omega | ((try simp only [SX.inK]); (try simp [SX.den, SX.IsU8, SX.AllP, *]); (try omega))), ?_⟩
            intro a20 w20 hr20 ht20
            refine post_callD 10 [.v (.string (B y))] hr20 rfl (by first | exact wanted_none rfl | exact wanted_zero (hr20.env.same rfl rfl rfl rfl) rfl (by simp) | exact wanted_zero (hr20.env.same rfl rfl rfl rfl) rfl (by simp [*])) rfl (callable 10 Tryd.func10) (number_some w20 y q hnum) ?_
            rintro e21 w21 ⟨rfl, hb21⟩
            have ht21 := HpRep_below ht20 hb21
            refine ⟨_, rfl, ht21, ?_⟩
            have h21 := hr20.ret hb21 96 (.tu [.v (.int .i64 q), .v (.bool true)]) rfl _ (hr20.all.below hb21) (by simp) rfl
            refine seg cfg15_ok mixed PanicFree.body 1000 [false] [] h21 (by first | trivial | exact HpRep.nil | assumption) (by kernel_rfl) fun s_ hs_ => ?_
            simp (maxSteps := 10000000) [SX.vc, SX.stop, SX.contS, SX.contB, SX.contW, SX.contR, SX.contD, SX.sxStep, SX.stepPure, SX.stepNew, SX.stepStore, SX.stepKeep, SX.guardIx, SX.evOp, SX.opd, SX.opds, SX.optOpd, SX.look, SX.putS, SX.gobs, SX.AllP, SX.leave, SX.lookC, SX.lookB, SX.lookT, SX.lookN, SX.findK, SX.evBuiltin, SX.ints, SX.foldI, SX.evBin, SX.evInt, SX.evStr, SX.evEq, SX.arith, SX.evLoad, SX.shapeUp, SX.evFieldAddr, SX.evField, SX.evIndexAddr, SX.evIndex, SX.evFill, SX.evBuild, SX.szs, SX.cellsV, SX.evNew, SX.evStore, SX.spliceL, SX.SV.cells, SX.evConv, SX.evSlice, SX.bnd, SX.evNil, SX.evUn, SX.evPick, SX.pickOpd, SX.popTo, SX.cnd, SX.env0, SX.TD.isAgg, SX.TD.isIface, SX.tails, SX.NotAgg, SX.evLookup, SX.evConvH, SX.evPtrEq, SX.isCells, SX.thaw, SX.frz, SX.fixB, SX.rootIx, SX.Froz, SX.frzStep, SX.fork, Go.Value.cells, Go.undef, cfg15]
            refine ⟨by (unfold SX.Ob; first | trivial | omega | ((try simp only [SX.inK]); (try simp [SX.den, SX.IsU8, SX.AllP, *]); (try omega))), ?_⟩
            intro a22 w22 hr22 _
            have hA22 := hr22.all
            exact post_rnd (n - (k + 1)) (by omega) ⟨k + 1, ac.set 1 q, by omega, by omega, hacd, hby, by rw [hlaid]; simp [laid, hnum], hr22.re (by simp [envTo, SX.look, den]) ⟨⟨hA22.1.1, hA22.1.2.1, by simp; omega⟩, ⟨⟨hA22.2.1.1, hA22.2.1.2.1, by simp⟩, trivial⟩⟩ rfl rfl⟩
        · cases hnum : numL y with
          | none =>
            have hR2 : readL l = none := by
              rw [hR, hlaid]
              simp [laid, hnum]
            refine seg cfg15_ok mixed PanicFree.body 1000 [true] [] h19 (by first | trivial | exact HpRep.nil | assumption) (by kernel_rfl) fun s_ hs_ => ?_
            simp (maxSteps := 10000000) [SX.vc, SX.stop, SX.contS, SX.contB, SX.contW, SX.contR, SX.contD, SX.sxStep, SX.stepPure, SX.stepNew, SX.stepStore, SX.stepKeep, SX.guardIx, SX.evOp, SX.opd, SX.opds, SX.optOpd, SX.look, SX.putS, SX.gobs, SX.AllP, SX.leave, SX.lookC, SX.lookB, SX.lookT, SX.lookN, SX.findK, SX.evBuiltin, SX.ints, SX.foldI, SX.evBin, SX.evInt, SX.evStr, SX.evEq, SX.arith, SX.evLoad, SX.shapeUp, SX.evFieldAddr, SX.evField, SX.evIndexAddr, SX.evIndex, SX.evFill, SX.evBuild, SX.szs, SX.cellsV, SX.evNew, SX.evStore, SX.spliceL, SX.SV.cells, SX.evConv, SX.evSlice, SX.bnd, SX.evNil, SX.evUn, SX.evPick, SX.pickOpd, SX.popTo, SX.cnd, SX.env0, SX.TD.isAgg, SX.TD.isIface, SX.tails, SX.NotAgg, SX.evLookup, SX.evConvH, SX.evPtrEq, SX.isCells, SX.thaw, SX.frz, SX.fixB, SX.rootIx, SX.Froz, SX.frzStep, SX.fork, Go.Value.cells, Go.undef, cfg15, ptrRow, wRow, hkk, hy, hlk, hlt]
            refine ⟨by (unfold SX.Ob; first | trivial | omega | ((try simp only [SX.inK]); (try simp [SX.den, SX.IsU8, SX.AllP, *]); (try omega))), ?_⟩
            intro a20 w20 hr20 ht20
            refine post_callD 10 [.v (.string (B y))] hr20 rfl (by first | exact wanted_none rfl | exact wanted_zero (hr20.env.same rfl rfl rfl rfl) rfl (by simp) | exact wanted_zero (hr20.env.same rfl rfl rfl rfl) rfl (by simp [*])) rfl (callable 10 Tryd.func10) (number_none w20 y hnum) ?_
            rintro e21 w21 ⟨⟨q, rfl⟩, hb21⟩
            have ht21 := HpRep_below ht20 hb21
            refine ⟨_, rfl, ht21, ?_⟩
            have h21 := hr20.ret hb21 96 (.tu [.v (.int .i64 q), .v (.bool false)]) rfl _ (hr20.all.below hb21) (by simp) rfl
            refine seg cfg15_ok mixed PanicFree.body 1000 [true] [] h21 (by first | trivial | exact HpRep.nil | assumption) (by kernel_rfl) fun s_ hs_ => ?_
            simp (maxSteps := 10000000) [SX.vc, SX.stop, SX.contS, SX.contB, SX.contW, SX.contR, SX.contD, SX.sxStep, SX.stepPure, SX.stepNew, SX.stepStore, SX.stepKeep, SX.guardIx, SX.evOp, SX.opd, SX.opds, SX.optOpd, SX.look, SX.putS, SX.gobs, SX.AllP, SX.leave, SX.lookC, SX.lookB, SX.lookT, SX.lookN, SX.findK, SX.evBuiltin, SX.ints, SX.foldI, SX.evBin, SX.evInt, SX.evStr, SX.evEq, SX.arith, SX.evLoad, SX.shapeUp, SX.evFieldAddr, SX.evField, SX.evIndexAddr, SX.evIndex, SX.evFill, SX.evBuild, SX.szs, SX.cellsV, SX.evNew, SX.evStore, SX.spliceL, SX.SV.cells, SX.evConv, SX.evSlice, SX.bnd, SX.evNil, SX.evUn, SX.evPick, SX.pickOpd, SX.popTo, SX.cnd, SX.env0, SX.TD.isAgg, SX.TD.isIface, SX.tails, SX.NotAgg, SX.evLookup, SX.evConvH, SX.evPtrEq, SX.isCells, SX.thaw, SX.frz, SX.fixB, SX.rootIx, SX.Froz, SX.frzStep, SX.fork, Go.Value.cells, Go.undef, cfg15]
            refine ⟨by (unfold SX.Ob; first | trivial | omega | ((try simp only [SX.inK]); (try simp [SX.den, SX.IsU8, SX.AllP, *]); (try omega))), ?_⟩
            intro a22 w22 hr22 _
            exact post_retn (endC2 (h17.unbase hr22) rfl rfl rfl tok39 rfl rfl ⟨⟨⟨d, who, ac.set 2 q⟩, 0, false, rfl, .inr ⟨hR2, rfl⟩⟩, (h17.unbase hr22).keeps.toBelow⟩).1
          | some q =>
            refine seg cfg15_ok mixed PanicFree.body 1000 [true] [] h19 (by first | trivial | exact HpRep.nil | assumption) (by kernel_rfl) fun s_ hs_ => ?_
            simp (maxSteps := 10000000) [SX.vc, SX.stop, SX.contS, SX.contB, SX.contW, SX.contR, SX.contD, SX.sxStep, SX.stepPure, SX.stepNew, SX.stepStore, SX.stepKeep, SX.guardIx, SX.evOp, SX.opd, SX.opds, SX.optOpd, SX.look, SX.putS, SX.gobs, SX.AllP, SX.leave, SX.lookC, SX.lookB, SX.lookT, SX.lookN, SX.findK, SX.evBuiltin, SX.ints, SX.foldI, SX.evBin, SX.evInt, SX.evStr, SX.evEq, SX.arith, SX.evLoad, SX.shapeUp, SX.evFieldAddr, SX.evField, SX.evIndexAddr, SX.evIndex, SX.evFill, SX.evBuild, SX.szs, SX.cellsV, SX.evNew, SX.evStore, SX.spliceL, SX.SV.cells, SX.evConv, SX.evSlice, SX.bnd, SX.evNil, SX.evUn, SX.evPick, SX.pickOpd, SX.popTo, SX.cnd, SX.env0, SX.TD.isAgg, SX.TD.isIface, SX.tails, SX.NotAgg, SX.evLookup, SX.evConvH, SX.evPtrEq, SX.isCells, SX.thaw, SX.frz, SX.fixB, SX.rootIx, SX.Froz, SX.frzStep, SX.fork, Go.Value.cells, Go.undef, cfg15, ptrRow, wRow, hkk, hy, hlk, hlt]
            refine ⟨by (unfold SX.Ob; first | trivial | omega | ((try simp only [SX.inK]); (try simp [SX.den, SX.IsU8, SX.AllP, *]); (try omega))), ?_⟩
            intro a20 w20 hr20 ht20
            refine post_callD 10 [.v (.string (B y))] hr20 rfl (by first | exact wanted_none rfl | exact wanted_zero (hr20.env.same rfl rfl rfl rfl) rfl (by simp) | exact wanted_zero (hr20.env.same rfl rfl rfl rfl) rfl (by simp [*])) rfl (callable 10 Tryd.func10) (number_some w20 y q hnum) ?_
            rintro e21 w21 ⟨rfl, hb21⟩
            have ht21 := HpRep_below ht20 hb21
            refine ⟨_, rfl, ht21, ?_⟩
            have h21 := hr20.ret hb21 96 (.tu [.v (.int .i64 q), .v (.bool true)]) rfl _ (hr20.all.below hb21) (by simp) rfl
            refine seg cfg15_ok mixed PanicFree.body 1000 [false] [] h21 (by first | trivial | exact HpRep.nil | assumption) (by kernel_rfl) fun s_ hs_ => ?_
            simp (maxSteps := 10000000) [SX.vc, SX.stop, SX.contS, SX.contB, SX.contW, SX.contR, SX.contD, SX.sxStep, SX.stepPure, SX.stepNew, SX.stepStore, SX.stepKeep, SX.guardIx, SX.evOp, SX.opd, SX.opds, SX.optOpd, SX.look, SX.putS, SX.gobs, SX.AllP, SX.leave, SX.lookC, SX.lookB, SX.lookT, SX.lookN, SX.findK, SX.evBuiltin, SX.ints, SX.foldI, SX.evBin, SX.evInt, SX.evStr, SX.evEq, SX.arith, SX.evLoad, SX.shapeUp, SX.evFieldAddr, SX.evField, SX.evIndexAddr, SX.evIndex, SX.evFill, SX.evBuild, SX.szs, SX.cellsV, SX.evNew, SX.evStore, SX.spliceL, SX.SV.cells, SX.evConv, SX.evSlice, SX.bnd, SX.evNil, SX.evUn, SX.evPick, SX.pickOpd, SX.popTo, SX.cnd, SX.env0, SX.TD.isAgg, SX.TD.isIface, SX.tails, SX.NotAgg, SX.evLookup, SX.evConvH, SX.evPtrEq, SX.isCells, SX.thaw, SX.frz, SX.fixB, SX.rootIx, SX.Froz, SX.frzStep, SX.fork, Go.Value.cells, Go.undef, cfg15]
            refine ⟨by (unfold SX.Ob; first | trivial | omega | ((try simp only [SX.inK]); (try simp [SX.den, SX.IsU8, SX.AllP, *]); (try omega))), ?_⟩
            intro a22 w22 hr22 _
            have hA22 := hr22.all
            exact post_rnd (n - (k + 1)) (by omega) ⟨k + 1, ac.set 2 q, by omega, by omega, hacd, hby, by rw [hlaid]; simp [laid, hnum], hr22.re (by simp [envTo, SX.look, den]) ⟨⟨hA22.1.1, hA22.1.2.1, by simp; omega⟩, ⟨⟨hA22.2.1.1, hA22.2.1.2.1, by simp⟩, trivial⟩⟩ rfl rfl⟩
        · cases hnum : numL y with
          | none =>
            have hR2 : readL l = none := by
              rw [hR, hlaid]
              simp [laid, hnum]
            refine seg cfg15_ok mixed PanicFree.body 1000 [true] [] h19 (by first | trivial | exact HpRep.nil | assumption) (by kernel_rfl) fun s_ hs_ => ?_
            simp (maxSteps := 10000000) [SX.vc, SX.stop, SX.contS, SX.contB, SX.contW, SX.contR, SX.contD, SX.sxStep, SX.stepPure, SX.stepNew, SX.stepStore, SX.stepKeep, SX.guardIx, SX.evOp, SX.opd, SX.opds, SX.optOpd, SX.look, SX.putS, SX.gobs, SX.AllP, SX.leave, SX.lookC, SX.lookB, SX.lookT, SX.lookN, SX.findK, SX.evBuiltin, SX.ints, SX.foldI, SX.evBin, SX.evInt, SX.evStr, SX.evEq, SX.arith, SX.evLoad, SX.shapeUp, SX.evFieldAddr, SX.evField, SX.evIndexAddr, SX.evIndex, SX.evFill, SX.evBuild, SX.szs, SX.cellsV, SX.evNew, SX.evStore, SX.spliceL, SX.SV.cells, SX.evConv, SX.evSlice, SX.bnd, SX.evNil, SX.evUn, SX.evPick, SX.pickOpd, SX.popTo, SX.cnd, SX.env0, SX.TD.isAgg, SX.TD.isIface, SX.tails, SX.NotAgg, SX.evLookup, SX.evConvH, SX.evPtrEq, SX.isCells, SX.thaw, SX.frz, SX.fixB, SX.rootIx, SX.Froz, SX.frzStep, SX.fork, Go.Value.cells, Go.undef, cfg15, ptrRow, wRow, hkk, hy, hlk, hlt]
            refine ⟨by (unfold SX.Ob; first | trivial | omega | ((try simp only [SX.inK]); (try simp [SX.den, SX.IsU8, SX.AllP, *]); (try omega))), ?_⟩
            intro a20 w20 hr20 ht20
            refine post_callD 10 [.v (.string (B y))] hr20 rfl (by first | exact wanted_none rfl | exact wanted_zero (hr20.env.same rfl rfl rfl rfl) rfl (by simp) | exact wanted_zero (hr20.env.same rfl rfl rfl rfl) rfl (by simp [*])) rfl (callable 10 Tryd.func10) (number_none w20 y hnum) ?_
            rintro e21 w21 ⟨⟨q, rfl⟩, hb21⟩
            have ht21 := HpRep_below ht20 hb21
            refine ⟨_, rfl, ht21, ?_⟩
            have h21 := hr20.ret hb21 96 (.tu [.v (.int .i64 q), .v (.bool false)]) rfl _ (hr20.all.below hb21) (by simp) rfl
            refine seg cfg15_ok mixed PanicFree.body 1000 [true] [] h21 (by first | trivial | exact HpRep.nil | assumption) (by kernel_rfl) fun s_ hs_ => ?_
            simp (maxSteps := 10000000) [SX.vc, SX.stop, SX.contS, SX.contB, SX.contW, SX.contR, SX.contD, SX.sxStep, SX.stepPure, SX.stepNew, SX.stepStore, SX.stepKeep, SX.guardIx, SX.evOp, SX.opd, SX.opds, SX.optOpd, SX.look, SX.putS, SX.gobs, SX.AllP, SX.leave, SX.lookC, SX.lookB, SX.lookT, SX.lookN, SX.findK, SX.evBuiltin, SX.ints, SX.foldI, SX.evBin, SX.evInt, SX.evStr, SX.evEq, SX.arith, SX.evLoad, SX.shapeUp, SX.evFieldAddr, SX.evField, SX.evIndexAddr, SX.evIndex, SX.evFill, SX.evBuild, SX.szs, SX.cellsV, SX.evNew, SX.evStore, SX.spliceL, SX.SV.cells, SX.evConv, SX.evSlice, SX.bnd, SX.evNil, SX.evUn, SX.evPick, SX.pickOpd, SX.popTo, SX.cnd, SX.env0, SX.TD.isAgg, SX.TD.isIface, SX.tails, SX.NotAgg, SX.evLookup, SX.evConvH, SX.evPtrEq, SX.isCells, SX.thaw, SX.frz, SX.fixB, SX.rootIx, SX.Froz, SX.frzStep, SX.fork, Go.Value.cells, Go.undef, cfg15]
            refine ⟨by (unfold SX.Ob; first | trivial | omega | ((try simp only [SX.inK]); (try simp [SX.den, SX.IsU8, SX.AllP, *]); (try omega))), ?_⟩
            intro a22 w22 hr22 _
            exact post_retn (endC2 (h17.unbase hr22) rfl rfl rfl tok39 rfl rfl ⟨⟨⟨d, who, ac.set 3 q⟩, 0, false, rfl, .inr ⟨hR2, rfl⟩⟩, (h17.unbase hr22).keeps.toBelow⟩).1
          | some q =>
            refine seg cfg15_ok mixed PanicFree.body 1000 [true] [] h19 (by first | trivial | exact HpRep.nil | assumption) (by kernel_rfl) fun s_ hs_ => ?_
            simp (maxSteps := 10000000) [SX.vc, SX.stop, SX.contS, SX.contB, SX.contW, SX.contR, SX.contD, SX.sxStep, SX.stepPure, SX.stepNew, SX.stepStore, SX.stepKeep, SX.guardIx, SX.evOp, SX.opd, SX.opds, SX.optOpd, SX.look, SX.putS, SX.gobs, SX.AllP, SX.leave, SX.lookC, SX.lookB, SX.lookT, SX.lookN, SX.findK, SX.evBuiltin, SX.ints, SX.foldI, SX.evBin, SX.evInt, SX.evStr, SX.evEq, SX.arith, SX.evLoad, SX.shapeUp, SX.evFieldAddr, SX.evField, SX.evIndexAddr, SX.evIndex, SX.evFill, SX.evBuild, SX.szs, SX.cellsV, SX.evNew, SX.evStore, SX.spliceL, SX.SV.cells, SX.evConv, SX.evSlice, SX.bnd, SX.evNil, SX.evUn, SX.evPick, SX.pickOpd, SX.popTo, SX.cnd, SX.env0, SX.TD.isAgg, SX.TD.isIface, SX.tails, SX.NotAgg, SX.evLookup, SX.evConvH, SX.evPtrEq, SX.isCells, SX.thaw, SX.frz, SX.fixB, SX.rootIx, SX.Froz, SX.frzStep, SX.fork, Go.Value.cells, Go.undef, cfg15, ptrRow, wRow, hkk, hy, hlk, hlt]
            refine ⟨by (unfold SX.Ob; first | trivial | omega | ((try simp only [SX.inK]); (try simp [SX.den, SX.IsU8, SX.AllP, *]); (try omega))), ?_⟩
            intro a20 w20 hr20 ht20
            refine post_callD 10 [.v (.string (B y))] hr20 rfl (by first | exact wanted_none rfl | exact wanted_zero (hr20.env.same rfl rfl rfl rfl) rfl (by simp) | exact wanted_zero (hr20.env.same rfl rfl rfl rfl) rfl (by simp [*])) rfl (callable 10 Tryd.func10) (number_some w20 y q hnum) ?_
            rintro e21 w21 ⟨rfl, hb21⟩
            have ht21 := HpRep_below ht20 hb21
            refine ⟨_, rfl, ht21, ?_⟩
            have h21 := hr20.ret hb21 96 (.tu [.v (.int .i64 q), .v (.bool true)]) rfl _ (hr20.all.below hb21) (by simp) rfl
            refine seg cfg15_ok mixed PanicFree.body 1000 [false] [] h21 (by first | trivial | exact HpRep.nil | assumption) (by kernel_rfl) fun s_ hs_ => ?_
            simp (maxSteps := 10000000) [SX.vc, SX.stop, SX.contS, SX.contB, SX.contW, SX.contR, SX.contD, SX.sxStep, SX.stepPure, SX.stepNew, SX.stepStore, SX.stepKeep, SX.guardIx, SX.evOp, SX.opd, SX.opds, SX.optOpd, SX.look, SX.putS, SX.gobs, SX.AllP, SX.leave, SX.lookC, SX.lookB, SX.lookT, SX.lookN, SX.findK, SX.evBuiltin, SX.ints, SX.foldI, SX.evBin, SX.evInt, SX.evStr, SX.evEq, SX.arith, SX.evLoad, SX.shapeUp, SX.evFieldAddr, SX.evField, SX.evIndexAddr, SX.evIndex, SX.evFill, SX.evBuild, SX.szs, SX.cellsV, SX.evNew, SX.evStore, SX.spliceL, SX.SV.cells, SX.evConv, SX.evSlice, SX.bnd, SX.evNil, SX.evUn, SX.evPick, SX.pickOpd, SX.popTo, SX.cnd, SX.env0, SX.TD.isAgg, SX.TD.isIface, SX.tails, SX.NotAgg, SX.evLookup, SX.evConvH, SX.evPtrEq, SX.isCells, SX.thaw, SX.frz, SX.fixB, SX.rootIx, SX.Froz, SX.frzStep, SX.fork, Go.Value.cells, Go.undef, cfg15]
            refine ⟨by (unfold SX.Ob; first | trivial | omega | ((try simp only [SX.inK]); (try simp [SX.den, SX.IsU8, SX.AllP, *]); (try omega))), ?_⟩
            intro a22 w22 hr22 _
            have hA22 := hr22.all
            exact post_rnd (n - (k + 1)) (by omega) ⟨k + 1, ac.set 3 q, by omega, by omega, hacd, hby, by rw [hlaid]; simp [laid, hnum], hr22.re (by simp [envTo, SX.look, den]) ⟨⟨hA22.1.1, hA22.1.2.1, by simp; omega⟩, ⟨⟨hA22.2.1.1, hA22.2.1.2.1, by simp⟩, trivial⟩⟩ rfl rfl⟩
        · cases hnum : numL y with
          | none =>
            have hR2 : readL l = none := by
              rw [hR, hlaid]
              simp [laid, hnum]
            refine seg cfg15_ok mixed PanicFree.body 1000 [true] [] h19 (by first | trivial | exact HpRep.nil | assumption) (by kernel_rfl) fun s_ hs_ => ?_
            simp (maxSteps := 10000000) [SX.vc, SX.stop, SX.contS, SX.contB, SX.contW, SX.contR, SX.contD, SX.sxStep, SX.stepPure, SX.stepNew, SX.stepStore, SX.stepKeep, SX.guardIx, SX.evOp, SX.opd, SX.opds, SX.optOpd, SX.look, SX.putS, SX.gobs, SX.AllP, SX.leave, SX.lookC, SX.lookB, SX.lookT, SX.lookN, SX.findK, SX.evBuiltin, SX.ints, SX.foldI, SX.evBin, SX.evInt, SX.evStr, SX.evEq, SX.arith, SX.evLoad, SX.shapeUp, SX.evFieldAddr, SX.evField, SX.evIndexAddr, SX.evIndex, SX.evFill, SX.evBuild, SX.szs, SX.cellsV, SX.evNew, SX.evStore, SX.spliceL, SX.SV.cells, SX.evConv, SX.evSlice, SX.bnd, SX.evNil, SX.evUn, SX.evPick, SX.pickOpd, SX.popTo, SX.cnd, SX.env0, SX.TD.isAgg, SX.TD.isIface, SX.tails, SX.NotAgg, SX.evLookup, SX.evConvH, SX.evPtrEq, SX.isCells, SX.thaw, SX.frz, SX.fixB, SX.rootIx, SX.Froz, SX.frzStep, SX.fork, Go.Value.cells, Go.undef, cfg15, ptrRow, wRow, hkk, hy, hlk, hlt]
            refine ⟨by (unfold SX.Ob; first | trivial | omega | ((try simp only [SX.inK]); (try simp [SX.den, SX.IsU8, SX.AllP, *]); (try omega))), ?_⟩
            intro a20 w20 hr20 ht20
            refine post_callD 10 [.v (.string (B y))] hr20 rfl (by first | exact wanted_none rfl | exact wanted_zero (hr20.env.same rfl rfl rfl rfl) rfl (by simp) | exact wanted_zero (hr20.env.same rfl rfl rfl rfl) rfl (by simp [*])) rfl (callable 10 Tryd.func10) (number_none w20 y hnum) ?_
            rintro e21 w21 ⟨⟨q, rfl⟩, hb21⟩
            have ht21 := HpRep_below ht20 hb21
            refine ⟨_, rfl, ht21, ?_⟩
            have h21 := hr20.ret hb21 96 (.tu [.v (.int .i64 q), .v (.bool false)]) rfl _ (hr20.all.below hb21) (by simp) rfl
            refine seg cfg15_ok mixed PanicFree.body 1000 [true] [] h21 (by first | trivial | exact HpRep.nil | assumption) (by kernel_rfl) fun s_ hs_ => ?_
            simp (maxSteps := 10000000) [SX.vc, SX.stop, SX.contS, SX.contB, SX.contW, SX.contR, SX.contD, SX.sxStep, SX.stepPure, SX.stepNew, SX.stepStore, SX.stepKeep, SX.guardIx, SX.evOp, SX.opd, SX.opds, SX.optOpd, SX.look, SX.putS, SX.gobs, SX.AllP, SX.leave, SX.lookC, SX.lookB, SX.lookT, SX.lookN, SX.findK, SX.evBuiltin, SX.ints, SX.foldI, SX.evBin, SX.evInt, SX.evStr, SX.evEq, SX.arith, SX.evLoad, SX.shapeUp, SX.evFieldAddr, SX.evField, SX.evIndexAddr, SX.evIndex, SX.evFill, SX.evBuild, SX.szs, SX.cellsV, SX.evNew, SX.evStore, SX.spliceL, SX.SV.cells, SX.evConv, SX.evSlice, SX.bnd, SX.evNil, SX.evUn, SX.evPick, SX.pickOpd, SX.popTo, SX.cnd, SX.env0, SX.TD.isAgg, SX.TD.isIface, SX.tails, SX.NotAgg, SX.evLookup, SX.evConvH, SX.evPtrEq, SX.isCells, SX.thaw, SX.frz, SX.fixB, SX.rootIx, SX.Froz, SX.frzStep, SX.fork, Go.Value.cells, Go.undef, cfg15]
            refine ⟨by (unfold SX.Ob; first | trivial | omega | ((try simp only [SX.inK]); (try simp [SX.den, SX.IsU8, SX.AllP, *]); (try omega))), ?_⟩
            intro a22 w22 hr22 _
            exact post_retn (endC2 (h17.unbase hr22) rfl rfl rfl tok39 rfl rfl ⟨⟨⟨d, who, ac.set 4 q⟩, 0, false, rfl, .inr ⟨hR2, rfl⟩⟩, (h17.unbase hr22).keeps.toBelow⟩).1
          | some q =>
            refine seg cfg15_ok mixed PanicFree.body 1000 [true] [] h19 (by first | trivial | exact HpRep.nil | assumption) (by kernel_rfl) fun s_ hs_ => ?_
            simp (maxSteps := 10000000) [SX.vc, SX.stop, SX.contS, SX.contB, SX.contW, SX.contR, SX.contD, SX.sxStep, SX.stepPure, SX.stepNew, SX.stepStore, SX.stepKeep, SX.guardIx, SX.evOp, SX.opd, SX.opds, SX.optOpd, SX.look, SX.putS, SX.gobs, SX.AllP, SX.leave, SX.lookC, SX.lookB, SX.lookT, SX.lookN, SX.findK, SX.evBuiltin, SX.ints, SX.foldI, SX.evBin, SX.evInt, SX.evStr, SX.evEq, SX.arith, SX.evLoad, SX.shapeUp, SX.evFieldAddr, SX.evField, SX.evIndexAddr, SX.evIndex, SX.evFill, SX.evBuild, SX.szs, SX.cellsV, SX.evNew, SX.evStore, SX.spliceL, SX.SV.cells, SX.evConv, SX.evSlice, SX.bnd, SX.evNil, SX.evUn, SX.evPick, SX.pickOpd, SX.popTo, SX.cnd, SX.env0, SX.TD.isAgg, SX.TD.isIface, SX.tails, SX.NotAgg, SX.evLookup, SX.evConvH, SX.evPtrEq, SX.isCells, SX.thaw, SX.frz, SX.fixB, SX.rootIx, SX.Froz, SX.frzStep, SX.fork, Go.Value.cells, Go.undef, cfg15, ptrRow, wRow, hkk, hy, hlk, hlt]
            refine ⟨by (unfold SX.Ob; first | trivial | omega | ((try simp only [SX.inK]); (try simp [SX.den, SX.IsU8, SX.AllP, *]); (try omega))), ?_⟩
            intro a20 w20 hr20 ht20
            refine post_callD 10 [.v (.string (B y))] hr20 rfl (by first | exact wanted_none rfl | exact wanted_zero (hr20.env.same rfl rfl rfl rfl) rfl (by simp) | exact wanted_zero (hr20.env.same rfl rfl rfl rfl) rfl (by simp [*])) rfl (callable 10 Tryd.func10) (number_some w20 y q hnum) ?_
            rintro e21 w21 ⟨rfl, hb21⟩
            have ht21 := HpRep_below ht20 hb21
            refine ⟨_, rfl, ht21, ?_⟩
            have h21 := hr20.ret hb21 96 (.tu [.v (.int .i64 q), .v (.bool true)]) rfl _ (hr20.all.below hb21) (by simp) rfl
            refine seg cfg15_ok mixed PanicFree.body 1000 [false] [] h21 (by first | trivial | exact HpRep.nil | assumption) (by kernel_rfl) fun s_ hs_ => ?_
            simp (maxSteps := 10000000) [SX.vc, SX.stop, SX.contS, SX.contB, SX.contW, SX.contR, SX.contD, SX.sxStep, SX.stepPure, SX.stepNew, SX.stepStore, SX.stepKeep, SX.guardIx, SX.evOp, SX.opd, SX.opds, SX.optOpd, SX.look, SX.putS, SX.gobs, SX.AllP, SX.leave, SX.lookC, SX.lookB, SX.lookT, SX.lookN, SX.findK, SX.evBuiltin, SX.ints, SX.foldI, SX.evBin, SX.evInt, SX.evStr, SX.evEq, SX.arith, SX.evLoad, SX.shapeUp, SX.evFieldAddr, SX.evField, SX.evIndexAddr, SX.evIndex, SX.evFill, SX.evBuild, SX.szs, SX.cellsV, SX.evNew, SX.evStore, SX.spliceL, SX.SV.cells, SX.evConv, SX.evSlice, SX.bnd, SX.evNil, SX.evUn, SX.evPick, SX.pickOpd, SX.popTo, SX.cnd, SX.env0, SX.TD.isAgg, SX.TD.isIface, SX.tails, SX.NotAgg, SX.evLookup, SX.evConvH, SX.evPtrEq, SX.isCells, SX.thaw, SX.frz, SX.fixB, SX.rootIx, SX.Froz, SX.frzStep, SX.fork, Go.Value.cells, Go.undef, cfg15]
            refine ⟨by (unfold SX.Ob; first | trivial | omega | ((try simp only [SX.inK]); (try simp [SX.den, SX.IsU8, SX.AllP, *]); (try omega))), ?_⟩
            intro a22 w22 hr22 _
            have hA22 := hr22.all
            exact post_rnd (n - (k + 1)) (by omega) ⟨k + 1, ac.set 4 q, by omega, by omega, hacd, hby, by rw [hlaid]; simp [laid, hnum], hr22.re (by simp [envTo, SX.look, den]) ⟨⟨hA22.1.1, hA22.1.2.1, by simp; omega⟩, ⟨⟨hA22.2.1.1, hA22.2.1.2.1, by simp⟩, trivial⟩⟩ rfl rfl⟩
        · cases hnum : numL y with
          | none =>
            have hR2 : readL l = none := by
              rw [hR, hlaid]
              simp [laid, hnum]
            refine seg cfg15_ok mixed PanicFree.body 1000 [true] [] h19 (by first | trivial | exact HpRep.nil | assumption) (by kernel_rfl) fun s_ hs_ => ?_
            simp (maxSteps := 10000000) [SX.vc, SX.stop, SX.contS, SX.contB, SX.contW, SX.contR, SX.contD, SX.sxStep, SX.stepPure, SX.stepNew, SX.stepStore, SX.stepKeep, SX.guardIx, SX.evOp, SX.opd, SX.opds, SX.optOpd, SX.look, SX.putS, SX.gobs, SX.AllP, SX.leave, SX.lookC, SX.lookB, SX.lookT, SX.lookN, SX.findK, SX.evBuiltin, SX.ints, SX.foldI, SX.evBin, SX.evInt, SX.evStr, SX.evEq, SX.arith, SX.evLoad, SX.shapeUp, SX.evFieldAddr, SX.evField, SX.evIndexAddr, SX.evIndex, SX.evFill, SX.evBuild, SX.szs, SX.cellsV, SX.evNew, SX.evStore, SX.spliceL, SX.SV.cells, SX.evConv, SX.evSlice, SX.bnd, SX.evNil, SX.evUn, SX.evPick, SX.pickOpd, SX.popTo, SX.cnd, SX.env0, SX.TD.isAgg, SX.TD.isIface, SX.tails, SX.NotAgg, SX.evLookup, SX.evConvH, SX.evPtrEq, SX.isCells, SX.thaw, SX.frz, SX.fixB, SX.rootIx, SX.Froz, SX.frzStep, SX.fork, Go.Value.cells, Go.undef, cfg15, ptrRow, wRow, hkk, hy, hlk, hlt]
            refine ⟨by (unfold SX.Ob; first | trivial | omega | ((try simp only [SX.inK]); (try simp [SX.den, SX.IsU8, SX.AllP, *]); (try omega))), ?_⟩
            intro a20 w20 hr20 ht20
            refine post_callD 10 [.v (.string (B y))] hr20 rfl (by first | exact wanted_none rfl | exact wanted_zero (hr20.env.same rfl rfl rfl rfl) rfl (by simp) | exact wanted_zero (hr20.env.same rfl rfl rfl rfl) rfl (by simp [*])) rfl (callable 10 Tryd.func10) (number_none w20 y hnum) ?_
            rintro e21 w21 ⟨⟨q, rfl⟩, hb21⟩
            have ht21 := HpRep_below ht20 hb21
            refine ⟨_, rfl, ht21, ?_⟩
            have h21 := hr20.ret hb21 96 (.tu [.v (.int .i64 q), .v (.bool false)]) rfl _ (hr20.all.below hb21) (by simp) rfl
            refine seg cfg15_ok mixed PanicFree.body 1000 [true] [] h21 (by first | trivial | exact HpRep.nil | assumption) (by kernel_rfl) fun s_ hs_ => ?_
            simp (maxSteps := 10000000) [SX.vc, SX.stop, SX.contS, SX.contB, SX.contW, SX.contR, SX.contD, SX.sxStep, SX.stepPure, SX.stepNew, SX.stepStore, SX.stepKeep, SX.guardIx, SX.evOp, SX.opd, SX.opds, SX.optOpd, SX.look, SX.putS, SX.gobs, SX.AllP, SX.leave, SX.lookC, SX.lookB, SX.lookT, SX.lookN, SX.findK, SX.evBuiltin, SX.ints, SX.foldI, SX.evBin, SX.evInt, SX.evStr, SX.evEq, SX.arith, SX.evLoad, SX.shapeUp, SX.evFieldAddr, SX.evField, SX.evIndexAddr, SX.evIndex, SX.evFill, SX.evBuild, SX.szs, SX.cellsV, SX.evNew, SX.evStore, SX.spliceL, SX.SV.cells, SX.evConv, SX.evSlice, SX.bnd, SX.evNil, SX.evUn, SX.evPick, SX.pickOpd, SX.popTo, SX.cnd, SX.env0, SX.TD.isAgg, SX.TD.isIface, SX.tails, SX.NotAgg, SX.evLookup, SX.evConvH, SX.evPtrEq, SX.isCells, SX.thaw, SX.frz, SX.fixB, SX.rootIx, SX.Froz, SX.frzStep, SX.fork, Go.Value.cells, Go.undef, cfg15]
            refine ⟨by (unfold SX.Ob; first | trivial | omega | ((try simp only [SX.inK]); (try simp [SX.den, SX.IsU8, SX.AllP, *]); (try omega))), ?_⟩
            intro a22 w22 hr22 _
            exact post_retn (endC2 (h17.unbase hr22) rfl rfl rfl tok39 rfl rfl ⟨⟨⟨d, who, ac⟩, 0, false, rfl, .inr ⟨hR2, rfl⟩⟩, (h17.unbase hr22).keeps.toBelow⟩).1
          | some q =>
            refine seg cfg15_ok mixed PanicFree.body 1000 [true] [] h19 (by first | trivial | exact HpRep.nil | assumption) (by kernel_rfl) fun s_ hs_ => ?_
            simp (maxSteps := 10000000) [SX.vc, SX.stop, SX.contS, SX.contB, SX.contW, SX.contR, SX.contD, SX.sxStep, SX.stepPure, SX.stepNew, SX.stepStore, SX.stepKeep, SX.guardIx, SX.evOp, SX.opd, SX.opds, SX.optOpd, SX.look, SX.putS, SX.gobs, SX.AllP, SX.leave, SX.lookC, SX.lookB, SX.lookT, SX.lookN, SX.findK, SX.evBuiltin, SX.ints, SX.foldI, SX.evBin, SX.evInt, SX.evStr, SX.evEq, SX.arith, SX.evLoad, SX.shapeUp, SX.evFieldAddr, SX.evField, SX.evIndexAddr, SX.evIndex, SX.evFill, SX.evBuild, SX.szs, SX.cellsV, SX.evNew, SX.evStore, SX.spliceL, SX.SV.cells, SX.evConv, SX.evSlice, SX.bnd, SX.evNil, SX.evUn, SX.evPick, SX.pickOpd, SX.popTo, SX.cnd, SX.env0, SX.TD.isAgg, SX.TD.isIface, SX.tails, SX.NotAgg, SX.evLookup, SX.evConvH, SX.evPtrEq, SX.isCells, SX.thaw, SX.frz, SX.fixB, SX.rootIx, SX.Froz, SX.frzStep, SX.fork, Go.Value.cells, Go.undef, cfg15, ptrRow, wRow, hkk, hy, hlk, hlt]
            refine ⟨by (unfold SX.Ob; first | trivial | omega | ((try simp only [SX.inK]); (try simp [SX.den, SX.IsU8, SX.AllP, *]); (try omega))), ?_⟩
            intro a20 w20 hr20 ht20
            refine post_callD 10 [.v (.string (B y))] hr20 rfl (by first | exact wanted_none rfl | exact wanted_zero (hr20.env.same rfl rfl rfl rfl) rfl (by simp) | exact wanted_zero (hr20.env.same rfl rfl rfl rfl) rfl (by simp [*])) rfl (callable 10 Tryd.func10) (number_some w20 y q hnum) ?_
            rintro e21 w21 ⟨rfl, hb21⟩
            have ht21 := HpRep_below ht20 hb21
            refine ⟨_, rfl, ht21, ?_⟩
            have h21 := hr20.ret hb21 96 (.tu [.v (.int .i64 q), .v (.bool true)]) rfl _ (hr20.all.below hb21) (by simp) rfl
            refine seg cfg15_ok mixed PanicFree.body 1000 [false] [] h21 (by first | trivial | exact HpRep.nil | assumption) (by kernel_rfl) fun s_ hs_ => ?_
            simp (maxSteps := 10000000) [SX.vc, SX.stop, SX.contS, SX.contB, SX.contW, SX.contR, SX.contD, SX.sxStep, SX.stepPure, SX.stepNew, SX.stepStore, SX.stepKeep, SX.guardIx, SX.evOp, SX.opd, SX.opds, SX.optOpd, SX.look, SX.putS, SX.gobs, SX.AllP, SX.leave, SX.lookC, SX.lookB, SX.lookT, SX.lookN, SX.findK, SX.evBuiltin, SX.ints, SX.foldI, SX.evBin, SX.evInt, SX.evStr, SX.evEq, SX.arith, SX.evLoad, SX.shapeUp, SX.evFieldAddr, SX.evField, SX.evIndexAddr, SX.evIndex, SX.evFill, SX.evBuild, SX.szs, SX.cellsV, SX.evNew, SX.evStore, SX.spliceL, SX.SV.cells, SX.evConv, SX.evSlice, SX.bnd, SX.evNil, SX.evUn, SX.evPick, SX.pickOpd, SX.popTo, SX.cnd, SX.env0, SX.TD.isAgg, SX.TD.isIface, SX.tails, SX.NotAgg, SX.evLookup, SX.evConvH, SX.evPtrEq, SX.isCells, SX.thaw, SX.frz, SX.fixB, SX.rootIx, SX.Froz, SX.frzStep, SX.fork, Go.Value.cells, Go.undef, cfg15]
            refine ⟨by (unfold SX.Ob; first | trivial | omega | ((try simp only [SX.inK]); (try simp [SX.den, SX.IsU8, SX.AllP, *]); (try omega))), ?_⟩
            intro a22 w22 hr22 _
            have hA22 := hr22.all
            exact post_rnd (n - (k + 1)) (by omega) ⟨k + 1, ac.set 5 q, by omega, by omega, hacd, by show (0 : Int) ≤ (q : Int); omega, by rw [hlaid]; simp [laid, hnum], hr22.re (by simp [envTo, SX.look, den]) ⟨⟨hA22.1.1, hA22.1.2.1, by simp; omega⟩, ⟨⟨hA22.2.1.1, hA22.2.1.2.1, by simp⟩, trivial⟩⟩ rfl rfl⟩
        · cases hnum : numL y with
          | none =>
            have hR2 : readL l = none := by
              rw [hR, hlaid]
              simp [laid, hnum]
            refine seg cfg15_ok mixed PanicFree.body 1000 [true] [] h19 (by first | trivial | exact HpRep.nil | assumption) (by kernel_rfl) fun s_ hs_ => ?_
            simp (maxSteps := 10000000) [SX.vc, SX.stop, SX.contS, SX.contB, SX.contW, SX.contR, SX.contD, SX.sxStep, SX.stepPure, SX.stepNew, SX.stepStore, SX.stepKeep, SX.guardIx, SX.evOp, SX.opd, SX.opds, SX.optOpd, SX.look, SX.putS, SX.gobs, SX.AllP, SX.leave, SX.lookC, SX.lookB, SX.lookT, SX.lookN, SX.findK, SX.evBuiltin, SX.ints, SX.foldI, SX.evBin, SX.evInt, SX.evStr, SX.evEq, SX.arith, SX.evLoad, SX.shapeUp, SX.evFieldAddr, SX.evField, SX.evIndexAddr, SX.evIndex, SX.evFill, SX.evBuild, SX.szs, SX.cellsV, SX.evNew, SX.evStore, SX.spliceL, SX.SV.cells, SX.evConv, SX.evSlice, SX.bnd, SX.evNil, SX.evUn, SX.evPick, SX.pickOpd, SX.popTo, SX.cnd, SX.env0, SX.TD.isAgg, SX.TD.isIface, SX.tails, SX.NotAgg, SX.evLookup, SX.evConvH, SX.evPtrEq, SX.isCells, SX.thaw, SX.frz, SX.fixB, SX.rootIx, SX.Froz, SX.frzStep, SX.fork, Go.Value.cells, Go.undef, cfg15, ptrRow, wRow, hkk, hy, hlk, hlt]
            refine ⟨by (unfold SX.Ob; first | trivial | omega | ((try simp only [SX.inK]); (try simp [SX.den, SX.IsU8, SX.AllP, *]); (try omega))), ?_⟩
            intro a20 w20 hr20 ht20
            refine post_callD 10 [.v (.string (B y))] hr20 rfl (by first | exact wanted_none rfl | exact wanted_zero (hr20.env.same rfl rfl rfl rfl) rfl (by simp) | exact wanted_zero (hr20.env.same rfl rfl rfl rfl) rfl (by simp [*])) rfl (callable 10 Tryd.func10) (number_none w20 y hnum) ?_
            rintro e21 w21 ⟨⟨q, rfl⟩, hb21⟩
            have ht21 := HpRep_below ht20 hb21
            refine ⟨_, rfl, ht21, ?_⟩
            have h21 := hr20.ret hb21 96 (.tu [.v (.int .i64 q), .v (.bool false)]) rfl _ (hr20.all.below hb21) (by simp) rfl
            refine seg cfg15_ok mixed PanicFree.body 1000 [true] [] h21 (by first | trivial | exact HpRep.nil | assumption) (by kernel_rfl) fun s_ hs_ => ?_
            simp (maxSteps := 10000000) [SX.vc, SX.stop, SX.contS, SX.contB, SX.contW, SX.contR, SX.contD, SX.sxStep, SX.stepPure, SX.stepNew, SX.stepStore, SX.stepKeep, SX.guardIx, SX.evOp, SX.opd, SX.opds, SX.optOpd, SX.look, SX.putS, SX.gobs, SX.AllP, SX.leave, SX.lookC, SX.lookB, SX.lookT, SX.lookN, SX.findK, SX.evBuiltin, SX.ints, SX.foldI, SX.evBin, SX.evInt, SX.evStr, SX.evEq, SX.arith, SX.evLoad, SX.shapeUp, SX.evFieldAddr, SX.evField, SX.evIndexAddr, SX.evIndex, SX.evFill, SX.evBuild, SX.szs, SX.cellsV, SX.evNew, SX.evStore, SX.spliceL, SX.SV.cells, SX.evConv, SX.evSlice, SX.bnd, SX.evNil, SX.evUn, SX.evPick, SX.pickOpd, SX.popTo, SX.cnd, SX.env0, SX.TD.isAgg, SX.TD.isIface, SX.tails, SX.NotAgg, SX.evLookup, SX.evConvH, SX.evPtrEq, SX.isCells, SX.thaw, SX.frz, SX.fixB, SX.rootIx, SX.Froz, SX.frzStep, SX.fork, Go.Value.cells, Go.undef, cfg15]
            refine ⟨by (unfold SX.Ob; first | trivial | omega | ((try simp only [SX.inK]); (try simp [SX.den, SX.IsU8, SX.AllP, *]); (try omega))), ?_⟩
            intro a22 w22 hr22 _
            exact post_retn (endC2 (h17.unbase hr22) rfl rfl rfl tok39 rfl rfl ⟨⟨⟨d, who, ac.set 6 q⟩, 0, false, rfl, .inr ⟨hR2, rfl⟩⟩, (h17.unbase hr22).keeps.toBelow⟩).1
          | some q =>
            refine seg cfg15_ok mixed PanicFree.body 1000 [true] [] h19 (by first | trivial | exact HpRep.nil | assumption) (by kernel_rfl) fun s_ hs_ => ?_
            simp (maxSteps := 10000000) [SX.vc, SX.stop, SX.contS, SX.contB, SX.contW, SX.contR, SX.contD, SX.sxStep, SX.stepPure, SX.stepNew, SX.stepStore, SX.stepKeep, SX.guardIx, SX.evOp, SX.opd, SX.opds, SX.optOpd, SX.look, SX.putS, SX.gobs, SX.AllP, SX.leave, SX.lookC, SX.lookB, SX.lookT, SX.lookN, SX.findK, SX.evBuiltin, SX.ints, SX.foldI, SX.evBin, SX.evInt, SX.evStr, SX.evEq, SX.arith, SX.evLoad, SX.shapeUp, SX.evFieldAddr, SX.evField, SX.evIndexAddr, SX.evIndex, SX.evFill, SX.evBuild, SX.szs, SX.cellsV, SX.evNew, SX.evStore, SX.spliceL, SX.SV.cells, SX.evConv, SX.evSlice, SX.bnd, SX.evNil, SX.evUn, SX.evPick, SX.pickOpd, SX.popTo, SX.cnd, SX.env0, SX.TD.isAgg, SX.TD.isIface, SX.tails, SX.NotAgg, SX.evLookup, SX.evConvH, SX.evPtrEq, SX.isCells, SX.thaw, SX.frz, SX.fixB, SX.rootIx, SX.Froz, SX.frzStep, SX.fork, Go.Value.cells, Go.undef, cfg15, ptrRow, wRow, hkk, hy, hlk, hlt]
            refine ⟨by (unfold SX.Ob; first | trivial | omega | ((try simp only [SX.inK]); (try simp [SX.den, SX.IsU8, SX.AllP, *]); (try omega))), ?_⟩
            intro a20 w20 hr20 ht20
            refine post_callD 10 [.v (.string (B y))] hr20 rfl (by first | exact wanted_none rfl | exact wanted_zero (hr20.env.same rfl rfl rfl rfl) rfl (by simp) | exact wanted_zero (hr20.env.same rfl rfl rfl rfl) rfl (by simp [*])) rfl (callable 10 Tryd.func10) (number_some w20 y q hnum) ?_
            rintro e21 w21 ⟨rfl, hb21⟩
            have ht21 := HpRep_below ht20 hb21
            refine ⟨_, rfl, ht21, ?_⟩
            have h21 := hr20.ret hb21 96 (.tu [.v (.int .i64 q), .v (.bool true)]) rfl _ (hr20.all.below hb21) (by simp) rfl
            refine seg cfg15_ok mixed PanicFree.body 1000 [false] [] h21 (by first | trivial | exact HpRep.nil | assumption) (by kernel_rfl) fun s_ hs_ => ?_
            simp (maxSteps := 10000000) [SX.vc, SX.stop, SX.contS, SX.contB, SX.contW, SX.contR, SX.contD, SX.sxStep, SX.stepPure, SX.stepNew, SX.stepStore, SX.stepKeep, SX.guardIx, SX.evOp, SX.opd, SX.opds, SX.optOpd, SX.look, SX.putS, SX.gobs, SX.AllP, SX.leave, SX.lookC, SX.lookB, SX.lookT, SX.lookN, SX.findK, SX.evBuiltin, SX.ints, SX.foldI, SX.evBin, SX.evInt, SX.evStr, SX.evEq, SX.arith, SX.evLoad, SX.shapeUp, SX.evFieldAddr, SX.evField, SX.evIndexAddr, SX.evIndex, SX.evFill, SX.evBuild, SX.szs, SX.cellsV, SX.evNew, SX.evStore, SX.spliceL, SX.SV.cells, SX.evConv, SX.evSlice, SX.bnd, SX.evNil, SX.evUn, SX.evPick, SX.pickOpd, SX.popTo, SX.cnd, SX.env0, SX.TD.isAgg, SX.TD.isIface, SX.tails, SX.NotAgg, SX.evLookup, SX.evConvH, SX.evPtrEq, SX.isCells, SX.thaw, SX.frz, SX.fixB, SX.rootIx, SX.Froz, SX.frzStep, SX.fork, Go.Value.cells, Go.undef, cfg15]
            refine ⟨by (unfold SX.Ob; first | trivial | omega | ((try simp only [SX.inK]); (try simp [SX.den, SX.IsU8, SX.AllP, *]); (try omega))), ?_⟩
            intro a22 w22 hr22 _
            have hA22 := hr22.all
            exact post_rnd (n - (k + 1)) (by omega) ⟨k + 1, ac.set 6 q, by omega, by omega, hacd, hby, by rw [hlaid]; simp [laid, hnum], hr22.re (by simp [envTo, SX.look, den]) ⟨⟨hA22.1.1, hA22.1.2.1, by simp; omega⟩, ⟨⟨hA22.2.1.1, hA22.2.1.2.1, by simp⟩, trivial⟩⟩ rfl rfl⟩
      · obtain rfl : k = n := by omega
        have hkk : ¬ (k : Int) < (k : Int) := by omega
        rw [List.drop_of_length_le (by omega), List.drop_of_length_le (by omega)] at hlaid
        have hlaid2 : laid (flds (d2 : Int)) ws (Ac.zero d2) = some ac := by rw [hlaid]; rfl
        rw [hlaid2] at hR
        by_cases hb : ac.by_ < 256
        · have hw : IntKind.u8.wrap ac.by_ = ac.by_ := by simp [IntKind.wrap, IntKind.bits, IntKind.signed]; omega
          refine seg cfg15_ok mixed PanicFree.body 1000 [false] [] hr18 (by first | trivial | exact HpRep.nil | assumption) (by kernel_rfl) fun s_ hs_ => ?_
          simp (maxSteps := 10000000) [SX.vc, SX.stop, SX.contS, SX.contB, SX.contW, SX.contR, SX.contD, SX.sxStep, SX.stepPure, SX.stepNew, SX.stepStore, SX.stepKeep, SX.guardIx, SX.evOp, SX.opd, SX.opds, SX.optOpd, SX.look, SX.putS, SX.gobs, SX.AllP, SX.leave, SX.lookC, SX.lookB, SX.lookT, SX.lookN, SX.findK, SX.evBuiltin, SX.ints, SX.foldI, SX.evBin, SX.evInt, SX.evStr, SX.evEq, SX.arith, SX.evLoad, SX.shapeUp, SX.evFieldAddr, SX.evField, SX.evIndexAddr, SX.evIndex, SX.evFill, SX.evBuild, SX.szs, SX.cellsV, SX.evNew, SX.evStore, SX.spliceL, SX.SV.cells, SX.evConv, SX.evSlice, SX.bnd, SX.evNil, SX.evUn, SX.evPick, SX.pickOpd, SX.popTo, SX.cnd, SX.env0, SX.TD.isAgg, SX.TD.isIface, SX.tails, SX.NotAgg, SX.evLookup, SX.evConvH, SX.evPtrEq, SX.isCells, SX.thaw, SX.frz, SX.fixB, SX.rootIx, SX.Froz, SX.frzStep, SX.fork, Go.Value.cells, Go.undef, cfg15, hkk, hw, hb]
          refine ⟨by (unfold SX.Ob; first | trivial | omega | ((try simp only [SX.inK]); (try simp [SX.den, SX.IsU8, SX.AllP, *]); (try omega))), ?_⟩
          intro a20 w20 hr20 _
          exact post_retn (endC2 (h17.unbase hr20) rfl rfl rfl tok39 rfl rfl ⟨⟨⟨d, who, ac⟩, ac.by_, true, rfl, .inl ⟨by rw [hR]; simp [hb], rfl, rfl⟩⟩, (h17.unbase hr20).keeps.toBelow⟩).1
        · refine seg cfg15_ok mixed PanicFree.body 1000 [false] [] hr18 (by first | trivial | exact HpRep.nil | assumption) (by kernel_rfl) fun s_ hs_ => ?_
          simp (maxSteps := 10000000) [SX.vc, SX.stop, SX.contS, SX.contB, SX.contW, SX.contR, SX.contD, SX.sxStep, SX.stepPure, SX.stepNew, SX.stepStore, SX.stepKeep, SX.guardIx, SX.evOp, SX.opd, SX.opds, SX.optOpd, SX.look, SX.putS, SX.gobs, SX.AllP, SX.leave, SX.lookC, SX.lookB, SX.lookT, SX.lookN, SX.findK, SX.evBuiltin, SX.ints, SX.foldI, SX.evBin, SX.evInt, SX.evStr, SX.evEq, SX.arith, SX.evLoad, SX.shapeUp, SX.evFieldAddr, SX.evField, SX.evIndexAddr, SX.evIndex, SX.evFill, SX.evBuild, SX.szs, SX.cellsV, SX.evNew, SX.evStore, SX.spliceL, SX.SV.cells, SX.evConv, SX.evSlice, SX.bnd, SX.evNil, SX.evUn, SX.evPick, SX.pickOpd, SX.popTo, SX.cnd, SX.env0, SX.TD.isAgg, SX.TD.isIface, SX.tails, SX.NotAgg, SX.evLookup, SX.evConvH, SX.evPtrEq, SX.isCells, SX.thaw, SX.frz, SX.fixB, SX.rootIx, SX.Froz, SX.frzStep, SX.fork, Go.Value.cells, Go.undef, cfg15, hkk, hb]
          refine ⟨by (unfold SX.Ob; first | trivial | omega | ((try simp only [SX.inK]); (try simp [SX.den, SX.IsU8, SX.AllP, *]); (try omega))), ?_⟩
          intro a20 w20 hr20 _
          exact post_retn (endC2 (h17.unbase hr20) rfl rfl rfl tok39 rfl rfl ⟨⟨⟨d, who, ac⟩, _, false, rfl, .inr ⟨by rw [hR]; simp [hb], rfl⟩⟩, (h17.unbase hr20).keeps.toBelow⟩).1
end Go.Proofs
