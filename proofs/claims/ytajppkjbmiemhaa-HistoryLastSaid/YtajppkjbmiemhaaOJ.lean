/- Judge, walked: it answers what the plain law says. -/
import Derived.Test.YtajppkjbmiemhaaOT
namespace Go.Proofs
set_option linter.unusedVariables false
set_option linter.unusedSimpArgs false
set_option linter.unusedSectionVars false
open Go Go.SX Go.RowKit Go.Hist

def stCells (p : HEv × Int) : List SV := [.v (.int .i64 p.1.at_), .v (.int .i64 p.1.lba), .v (.bool p.1.rd), .v (.int .i64 p.1.ver), .v (.int .u8 p.1.by_), .v (.int .i64 p.2)]

/-- What memory holds at a round's head, beside the state. -/
def JInv (f : Nat → HEv) (k : Nat) (base M0 : Nat) (B : Int → Nat) (w : World) : Prop :=
  (∀ x p, stAt f k x = some p → (SO.cells (stCells p) 44).rep w (B x) ∧ base ≤ B x ∧ B x ≠ M0) ∧ ∀ x y p q, stAt f k x = some p → stAt f k y = some q → B x = B y → x = y

def mAt (f : Nat → HEv) (k : Nat) (B : Int → Nat) : Int → Option SV := fun x => (stAt f k x).map fun _ => .v (.pointer (some ⟨B x, 0, none⟩))

theorem IMap.congr {es : Array MapEntry} {clk : Nat} {m m' : Int → Option SV} (h : IMap es clk m) (hm : ∀ k, (m k).map den = (m' k).map den) : IMap es clk m' := by
  obtain ⟨l, h1, h2, h3, h4, h5⟩ := h
  refine ⟨l.map fun e => (e.1, (m' e.1).getD e.2.1, e.2.2), ?_, ?_, ?_, ?_, ?_⟩
  · rw [h1, List.map_map]
    congr 1
    apply List.map_congr_left
    intro e he
    have hme : m e.1 = some e.2.1 := (h5 e.1 e.2.1).2 ⟨e.2.2, he⟩
    have := hm e.1
    rw [hme] at this
    cases hm' : m' e.1 with
    | none => rw [hm'] at this; cases this
    | some y =>
      rw [hm'] at this
      simp only [Option.map_some, Option.some.injEq] at this
      simp [mkEntry, hm', this]
  · rw [List.map_map]; exact h2
  · rw [List.map_map]; exact h3
  · intro e he
    obtain ⟨e', he', rfl⟩ := List.mem_map.1 he
    exact h4 e' he'
  · intro k x
    constructor
    · intro hx
      have := hm k
      rw [hx] at this
      cases hmk : m k with
      | none => rw [hmk] at this; cases this
      | some y =>
        obtain ⟨n, hn⟩ := (h5 k y).1 hmk
        exact ⟨n, List.mem_map.2 ⟨(k, y, n), hn, by simp [hx]⟩⟩
    · rintro ⟨n, hn⟩
      obtain ⟨e, he, heq⟩ := List.mem_map.1 hn
      simp only [Prod.mk.injEq] at heq
      obtain ⟨e1, e2, e3⟩ := heq
      have hme : m k = some e.2.1 := (h5 k e.2.1).2 ⟨e.2.2, by rw [← e1]; exact he⟩
      have := hm k
      rw [hme] at this
      cases hmk : m' k with
      | none => rw [hmk] at this; cases this
      | some y => rw [e1, hmk] at e2; simpa using e2

def jst (f : Nat → HEv) (n : Nat) (b o0 N cap : Nat) (u : TypeId) (fz : Nat × Nat) (k M0 : Nat) (B : Int → Nat) : St :=
  ⟨[(12, 0, .v (.int .i64 k)), (11, 0, .v (.int .i64 n)), (10, 0, .sl 0 b o0 0 n cap 5), (4, 0, .mp 1 M0), (0, 0, .sl 0 b o0 0 n cap 5)], [(b, false, .arr o0 N (fun j => evRow (f j)) 5 u fz), (M0, true, .imap (mAt f k B))], 0, 0, 87, [], [], []⟩

def mAtT (f : Nat → HEv) (k : Nat) (B : Int → Nat) (l : Int) : Int → Option SV := fun x => if x = l then some (.ptr 2 (B l) 0) else mAt f k B x

def jst2 (f : Nat → HEv) (n : Nat) (b o0 N cap : Nat) (u : TypeId) (fz : Nat × Nat) (k M0 : Nat) (B : Int → Nat) (l : Int) (p : HEv × Int) : St :=
  ⟨[(12, 0, .v (.int .i64 k)), (11, 0, .v (.int .i64 n)), (10, 0, .sl 0 b o0 0 n cap 5), (4, 0, .mp 1 M0), (0, 0, .sl 0 b o0 0 n cap 5)], [(b, false, .arr o0 N (fun j => evRow (f j)) 5 u fz), (M0, true, .imap (mAtT f k B l)), (B l, true, .cells (stCells p) 44)], 0, 0, 87, [], [], []⟩

/-- The next round's facts. -/
theorem jinv_next {f : Nat → HEv} {k base M0 : Nat} {B : Int → Nat} {w w' : World} {nb : Nat} {p : HEv × Int} (h : JInv f k base M0 B w) (hnb : base ≤ nb) (hM : nb ≠ M0)
    (hold : ∀ x q, x ≠ (f k).lba → stAt f k x = some q → w'.heap[B x]? = w.heap[B x]? ∧ B x ≠ nb) (hnew : (SO.cells (stCells p) 44).rep w' nb) (hp : p = ((if (f k).rd then (cur (stAt f k) (f k)).1 else f k), (f k).at_)) :
    JInv f (k + 1) base M0 (fun x => if x = (f k).lba then nb else B x) w' := by
  subst hp
  refine ⟨fun x q hx => ?_, fun x y q r hx hy hB => ?_⟩
  · simp only [stAt, nxt] at hx
    by_cases hxl : x = (f k).lba
    · simp only [hxl, if_true] at hx ⊢
      cases hx
      exact ⟨hnew, hnb, hM⟩
    · simp only [if_neg hxl] at hx ⊢
      obtain ⟨h1, h2, h3⟩ := h.1 x q hx
      exact ⟨SO.rep_same h1 (hold x q hxl hx).1, h2, h3⟩
  · simp only [stAt, nxt] at hx hy
    by_cases hxl : x = (f k).lba <;> by_cases hyl : y = (f k).lba
    · rw [hxl, hyl]
    · simp only [if_pos hxl, if_neg hyl] at hB hy
      exact absurd hB.symm (hold y r hyl hy).2
    · simp only [if_neg hxl, if_pos hyl] at hB hx
      exact absurd hB (hold x q hxl hx).2
    · simp only [if_neg hxl, if_neg hyl] at hB hx hy
      exact h.2 x y q r hx hy hB

theorem mAt_next {f : Nat → HEv} {k : Nat} {B : Int → Nat} {nb i : Nat} (x : Int) : ((updFn (mAt f k B) (f k).lba (.ptr i nb 0)) x).map den = (mAt f (k + 1) (fun x => if x = (f k).lba then nb else B x) x).map den := by
  simp only [updFn, mAt, stAt, nxt]
  by_cases h : x = (f k).lba <;> simp [h, den]

theorem mAt_next2 {f : Nat → HEv} {k : Nat} {B : Int → Nat} (x : Int) : ((mAtT f k B (f k).lba) x).map den = (mAt f (k + 1) (fun x => if x = (f k).lba then B (f k).lba else B x) x).map den := by
  simp only [mAtT, mAt, stAt, nxt]
  by_cases h : x = (f k).lba <;> simp [h, den]

theorem mAtT_same {f : Nat → HEv} {k : Nat} {B : Int → Nat} {l : Int} {p : HEv × Int} (h : stAt f k l = some p) (x : Int) : ((mAt f k B) x).map den = (mAtT f k B l x).map den := by
  simp only [mAtT, mAt]
  by_cases hx : x = l
  · subst hx; simp [h, den]
  · simp [hx]

theorem imap_congr {w : World} {b : Nat} {m m' : Int → Option SV} (h : (SO.imap m).rep w b) (hm : ∀ k, (m k).map den = (m' k).map den) : (SO.imap m').rep w b := by
  obtain ⟨es, clk, h1, h2⟩ := h
  exact ⟨es, clk, h1, IMap.congr h2 hm⟩

/-- The loop's invariant. -/
def JLoop (f : Nat → HEv) (n b o0 N cap : Nat) (u : TypeId) (fz : Nat × Nat) (w : World) (m : Nat) (a : Act) (w' : World) : Prop :=
  ∃ (k M0 : Nat) (B : Int → Nat), m = n - k ∧ k ≤ n ∧ (∀ j, j < k → okAt f j = true) ∧ JInv f k w.heap.size M0 B w' ∧ RepX (frame0 w) (jst f n b o0 N cap u fz k M0 B) a w'

theorem jfin {f : Nat → HEv} {n b o0 N cap : Nat} {u : TypeId} {fz : Nat × Nat} {w : World} {k M0 : Nat} {B : Int → Nat} {a2 : Act} {w2 : World} (hk : k < n) (hok : ∀ j, j < k → okAt f j = true) (hJ : JInv f k w.heap.size M0 B w2)
    (hr2 : RepX (frame0 w) (jst f n b o0 N cap u fz k M0 B) a2 w2) {a5 : Act} {w5 : World} {st5 : St} {nb : Nat} {x5 : Nat × Bool × SO} {p : HEv × Int} (hokk : okAt f k = true) (hnb : w2.heap.size ≤ nb)
    (hr5 : RepX (frameAt w2 (jst f n b o0 N cap u fz k M0 B).hp) st5 a5 w5) (hnt : st5.nt = 87)
    (hst : st5.hp = [(b, false, .arr o0 N (fun j => evRow (f j)) 5 u fz), (M0, true, .imap (updFn (mAt f k B) (f k).lba (.ptr 3 nb 0))), x5, (nb, true, .cells (stCells p) 44)]) (henv : envTo st5.env (jst f n b o0 N cap u fz (k + 1) M0 B).env)
    (hp : p = ((if (f k).rd then (cur (stAt f k) (f k)).1 else f k), (f k).at_)) : ∃ m, m < n - k ∧ JLoop f n b o0 N cap u fz w m a5 w5 := by
  have hA := hr2.all
  obtain ⟨⟨hA1, _, hA2⟩, ⟨hA3, hA4, _⟩, _⟩ := hA
  have hbM : b ≠ M0 := hA2 (M0, true, .imap (mAt f k B)) (by simp)
  have hM2 : M0 < w2.heap.size := SO.rep_lt hA3
  have h5 := hr5.all
  rw [hst] at h5
  obtain ⟨⟨g1, g2, g3⟩, ⟨g4, g5, g6⟩, _, ⟨g7, g8, _⟩, _⟩ := h5
  have hold : ∀ x q, x ≠ (f k).lba → stAt f k x = some q → w5.heap[B x]? = w2.heap[B x]? ∧ B x ≠ nb := fun x q hx hq => by
    obtain ⟨q1, q2, q3⟩ := hJ.1 x q hq
    have q4 := SO.rep_lt q1
    refine ⟨hr5.old q4 ?_, by omega⟩
    simp [mutB, jst, q3]
  refine ⟨n - (k + 1), by omega, k + 1, M0, fun x => if x = (f k).lba then nb else B x, rfl, hk, fun j hj => ?_, jinv_next hJ (by have := hr2.keeps.size; simp only [frame0] at this; omega) (by omega) hold g7 hp, ?_⟩
  · by_cases hjk : j = k
    · subst hjk; exact hokk
    · exact hok j (by omega)
  · refine (hr2.unbase hr5).re (by simpa [jst] using henv) ?_ hnt.symm rfl
    have g9 := (hr2.unbase hr5).all
    rw [hst] at g9
    exact ⟨⟨g9.1.1, g9.1.2.1, fun e he => by simp [jst] at he; subst he; exact hbM⟩, ⟨imap_congr g9.2.1.1 mAt_next, g9.2.1.2.1, by simp⟩, trivial⟩

theorem jfin2 {f : Nat → HEv} {n b o0 N cap : Nat} {u : TypeId} {fz : Nat × Nat} {w : World} {k M0 : Nat} {B : Int → Nat} {a2 : Act} {w2 : World} {p0 : HEv × Int} (hk : k < n) (hok : ∀ j, j < k → okAt f j = true) (hJ : JInv f k w.heap.size M0 B w2)
    (hc : stAt f k (f k).lba = some p0) (hr2 : RepX (frame0 w) (jst2 f n b o0 N cap u fz k M0 B (f k).lba p0) a2 w2) {a5 : Act} {w5 : World} {st5 : St} {x5 : Nat × Bool × SO} {p : HEv × Int} (hokk : okAt f k = true)
    (hr5 : RepX (frameAt w2 (jst2 f n b o0 N cap u fz k M0 B (f k).lba p0).hp) st5 a5 w5) (hnt : st5.nt = 87)
    (hst : st5.hp = [(b, false, .arr o0 N (fun j => evRow (f j)) 5 u fz), (M0, true, .imap (mAtT f k B (f k).lba)), (B (f k).lba, true, .cells (stCells p) 44), x5]) (henv : envTo st5.env (jst f n b o0 N cap u fz (k + 1) M0 B).env)
    (hp : p = ((if (f k).rd then (cur (stAt f k) (f k)).1 else f k), (f k).at_)) : ∃ m, m < n - k ∧ JLoop f n b o0 N cap u fz w m a5 w5 := by
  have hA := hr2.all
  obtain ⟨⟨hA1, _, hA2⟩, ⟨hA3, hA4, _⟩, _⟩ := hA
  have hbM : b ≠ M0 := hA2 (M0, true, .imap (mAtT f k B (f k).lba)) (by simp)
  have h5 := hr5.all
  rw [hst] at h5
  obtain ⟨⟨g1, g2, g3⟩, ⟨g4, g5, g6⟩, ⟨g7, g8, _⟩, _⟩ := h5
  obtain ⟨j1, j2, j3⟩ := hJ.1 _ _ hc
  have hold : ∀ x q, x ≠ (f k).lba → stAt f k x = some q → w5.heap[B x]? = w2.heap[B x]? ∧ B x ≠ B (f k).lba := fun x q hx hq => by
    obtain ⟨q1, q2, q3⟩ := hJ.1 x q hq
    have q4 := SO.rep_lt q1
    have q5 : B x ≠ B (f k).lba := fun h => hx (hJ.2 _ _ _ _ hq hc h)
    refine ⟨hr5.old q4 ?_, q5⟩
    simp [mutB, jst2, q3, q5]
  refine ⟨n - (k + 1), by omega, k + 1, M0, fun x => if x = (f k).lba then B (f k).lba else B x, rfl, hk, fun j hj => ?_, jinv_next hJ j2 j3 hold g7 hp, ?_⟩
  · by_cases hjk : j = k
    · subst hjk; exact hokk
    · exact hok j (by omega)
  · refine (hr2.unbase hr5).re (by simpa [jst] using henv) ?_ hnt.symm rfl
    have g9 := (hr2.unbase hr5).all
    rw [hst] at g9
    exact ⟨⟨g9.1.1, g9.1.2.1, fun e he => by simp [jst] at he; subst he; exact hbM⟩, ⟨imap_congr g9.2.1.1 mAt_next2, g9.2.1.2.1, by simp⟩, trivial⟩

set_option maxRecDepth 100000 in
set_option maxHeartbeats 8000000 in
theorem judge_ok (w : World) (i b o0 N n cap : Nat) (f : Nat → HEv) (u : TypeId) (fz : Nat × Nat) (hb : SO.rep w b (.arr o0 N (fun j => evRow (f j)) 5 u fz)) (hN : n ≤ N) (hn : n ≤ 1000000000000) :
    Calls Try.prog 9 (denL [.sl i b o0 0 n cap 5]).toArray w (JPost f n w) := by
  have hE : HpAll (frame0 w) w [(b, false, .arr o0 N (fun j => evRow (f j)) 5 u fz)] := ⟨⟨hb, by simp, by simp⟩, trivial⟩
  refine enter (F := frame0 w) Try.func9 rfl [.sl 0 b o0 0 n cap 5] [(b, false, .arr o0 N (fun j => evRow (f j)) 5 u fz)] (by simp [Try.f9]) hE (keeps0 w) fun a hr => ?_
  refine seg cfg9_ok mixed PanicFree.body 1000 [] [] hr (by first | trivial | exact HpRep.nil | assumption) (by kernel_rfl) fun s_ hs_ => ?_
  simp (maxSteps := 10000000) [SX.vc, SX.stop, SX.contS, SX.contB, SX.contW, SX.contR, SX.contD, SX.sxStep, SX.stepPure, SX.stepNew, SX.stepStore, SX.stepKeep, SX.guardIx, SX.evOp, SX.opd, SX.opds, SX.optOpd, SX.look, SX.putS, SX.gobs, SX.AllP, SX.leave, SX.lookC, SX.lookB, SX.lookT, SX.lookN, SX.findK, SX.evBuiltin, SX.ints, SX.foldI, SX.evBin, SX.evInt, SX.evStr, SX.evEq, SX.arith, SX.evLoad, SX.shapeUp, SX.evFieldAddr, SX.evField, SX.evIndexAddr, SX.evIndex, SX.evFill, SX.evBuild, SX.szs, SX.cellsV, SX.evNew, SX.evStore, SX.spliceL, SX.SV.cells, SX.evConv, SX.evSlice, SX.bnd, SX.evNil, SX.evUn, SX.evPick, SX.pickOpd, SX.popTo, SX.cnd, SX.env0, SX.TD.isAgg, SX.TD.isIface, SX.tails, SX.NotAgg, SX.evLookup, SX.evConvH, SX.evPtrEq, SX.isCells, SX.thaw, SX.frz, SX.fixB, SX.rootIx, SX.Froz, SX.frzStep, SX.fork, Go.Value.cells, Go.undef, cfg9, Try.f9]
  refine ⟨by (unfold SX.Ob; first | trivial | omega | ((try simp only [SX.inK]); (try simp [SX.den, SX.IsU8, SX.AllP, *]); (try omega))), ?_⟩
  intro a1 w1 hr1 _
  refine post_loop (JLoop f n b o0 N cap u fz w) n ?_ ?_
  · refine ⟨0, _, fun _ => 0, rfl, Nat.zero_le _, fun j hj => by omega, ⟨fun x p hx => by simp [stAt] at hx, fun x y p q hx => by simp [stAt] at hx⟩, hr1.re (by simp [jst, envTo, SX.look]; rfl) ?_ rfl rfl⟩
    have h1 := hr1.all
    exact ⟨h1.1, h1.2.1, trivial⟩
  · rintro m a2 w2 ⟨k, M0, B, rfl, hk, hok, hJ, hr2⟩
    by_cases hlt : k < n
    · cases hc : stAt f k (f k).lba with
      | none =>
        have hm : mAt f k B (f k).lba = none := by simp [mAt, hc]
        cases hrd : (f k).rd with
        | true =>
          have hexp : okAt f k = (decide ((f k).ver = 0) && decide ((f k).by_ = 0)) := by simp [okAt, okE, cur, hc, hrd, zeroEv]
          by_cases hv : (f k).ver = 0
          · by_cases hv2 : (f k).by_ = 0
            · refine seg cfg9_ok mixed PanicFree.body 1000 [true, true, true, false] [] hr2.rebase (by first | trivial | exact HpRep.nil | assumption) (by kernel_rfl) fun s_ hs_ => ?_
              simp (maxSteps := 10000000) [SX.vc, SX.stop, SX.contS, SX.contB, SX.contW, SX.contR, SX.contD, SX.sxStep, SX.stepPure, SX.stepNew, SX.stepStore, SX.stepKeep, SX.guardIx, SX.evOp, SX.opd, SX.opds, SX.optOpd, SX.look, SX.putS, SX.gobs, SX.AllP, SX.leave, SX.lookC, SX.lookB, SX.lookT, SX.lookN, SX.findK, SX.evBuiltin, SX.ints, SX.foldI, SX.evBin, SX.evInt, SX.evStr, SX.evEq, SX.arith, SX.evLoad, SX.shapeUp, SX.evFieldAddr, SX.evField, SX.evIndexAddr, SX.evIndex, SX.evFill, SX.evBuild, SX.szs, SX.cellsV, SX.evNew, SX.evStore, SX.spliceL, SX.SV.cells, SX.evConv, SX.evSlice, SX.bnd, SX.evNil, SX.evUn, SX.evPick, SX.pickOpd, SX.popTo, SX.cnd, SX.env0, SX.TD.isAgg, SX.TD.isIface, SX.tails, SX.NotAgg, SX.evLookup, SX.evConvH, SX.evPtrEq, SX.isCells, SX.thaw, SX.frz, SX.fixB, SX.rootIx, SX.Froz, SX.frzStep, SX.fork, Go.Value.cells, Go.undef, cfg9, jst, evRow, hlt, hm, hrd, hv, hv2]
              refine ⟨by (unfold SX.Ob; first | trivial | omega | ((try simp only [SX.inK]); (try simp [SX.den, SX.IsU8, SX.AllP, *]); (try omega))), ?_⟩
              intro a4 w4 hr4 _
              refine post_inv (jfin hlt hok hJ hr2 (by rw [hexp]; simp [hv, hv2]) ?_ hr4 rfl rfl (by simp [jst, envTo, SX.look]) (p := (zeroEv, (f k).at_)) (by simp [hrd, cur, hc]))
              omega
            · refine seg cfg9_ok mixed PanicFree.body 1000 [true, true, true, true] [] hr2.rebase (by first | trivial | exact HpRep.nil | assumption) (by kernel_rfl) fun s_ hs_ => ?_
              simp (maxSteps := 10000000) [SX.vc, SX.stop, SX.contS, SX.contB, SX.contW, SX.contR, SX.contD, SX.sxStep, SX.stepPure, SX.stepNew, SX.stepStore, SX.stepKeep, SX.guardIx, SX.evOp, SX.opd, SX.opds, SX.optOpd, SX.look, SX.putS, SX.gobs, SX.AllP, SX.leave, SX.lookC, SX.lookB, SX.lookT, SX.lookN, SX.findK, SX.evBuiltin, SX.ints, SX.foldI, SX.evBin, SX.evInt, SX.evStr, SX.evEq, SX.arith, SX.evLoad, SX.shapeUp, SX.evFieldAddr, SX.evField, SX.evIndexAddr, SX.evIndex, SX.evFill, SX.evBuild, SX.szs, SX.cellsV, SX.evNew, SX.evStore, SX.spliceL, SX.SV.cells, SX.evConv, SX.evSlice, SX.bnd, SX.evNil, SX.evUn, SX.evPick, SX.pickOpd, SX.popTo, SX.cnd, SX.env0, SX.TD.isAgg, SX.TD.isIface, SX.tails, SX.NotAgg, SX.evLookup, SX.evConvH, SX.evPtrEq, SX.isCells, SX.thaw, SX.frz, SX.fixB, SX.rootIx, SX.Froz, SX.frzStep, SX.fork, Go.Value.cells, Go.undef, cfg9, jst, evRow, hlt, hm, hrd, hv, hv2]
              refine ⟨by (unfold SX.Ob; first | trivial | omega | ((try simp only [SX.inK]); (try simp [SX.den, SX.IsU8, SX.AllP, *]); (try omega))), ?_⟩
              intro a4 w4 hr4 _
              exact post_retn (end2 hr4 rfl rfl rfl ⟨k, false, rfl, (hr2.unbase hr4).keeps.toBelow, fun h => (by cases h), fun _ => ⟨hlt, by rw [hexp]; simp [hv, hv2], hok⟩⟩).1
          · refine seg cfg9_ok mixed PanicFree.body 1000 [true, true, true, true] [] hr2.rebase (by first | trivial | exact HpRep.nil | assumption) (by kernel_rfl) fun s_ hs_ => ?_
            simp (maxSteps := 10000000) [SX.vc, SX.stop, SX.contS, SX.contB, SX.contW, SX.contR, SX.contD, SX.sxStep, SX.stepPure, SX.stepNew, SX.stepStore, SX.stepKeep, SX.guardIx, SX.evOp, SX.opd, SX.opds, SX.optOpd, SX.look, SX.putS, SX.gobs, SX.AllP, SX.leave, SX.lookC, SX.lookB, SX.lookT, SX.lookN, SX.findK, SX.evBuiltin, SX.ints, SX.foldI, SX.evBin, SX.evInt, SX.evStr, SX.evEq, SX.arith, SX.evLoad, SX.shapeUp, SX.evFieldAddr, SX.evField, SX.evIndexAddr, SX.evIndex, SX.evFill, SX.evBuild, SX.szs, SX.cellsV, SX.evNew, SX.evStore, SX.spliceL, SX.SV.cells, SX.evConv, SX.evSlice, SX.bnd, SX.evNil, SX.evUn, SX.evPick, SX.pickOpd, SX.popTo, SX.cnd, SX.env0, SX.TD.isAgg, SX.TD.isIface, SX.tails, SX.NotAgg, SX.evLookup, SX.evConvH, SX.evPtrEq, SX.isCells, SX.thaw, SX.frz, SX.fixB, SX.rootIx, SX.Froz, SX.frzStep, SX.fork, Go.Value.cells, Go.undef, cfg9, jst, evRow, hlt, hm, hrd, hv]
            refine ⟨by (unfold SX.Ob; first | trivial | omega | ((try simp only [SX.inK]); (try simp [SX.den, SX.IsU8, SX.AllP, *]); (try omega))), ?_⟩
            intro a4 w4 hr4 _
            exact post_retn (end2 hr4 rfl rfl rfl ⟨k, false, rfl, (hr2.unbase hr4).keeps.toBelow, fun h => (by cases h), fun _ => ⟨hlt, by rw [hexp]; simp [hv], hok⟩⟩).1
        | false =>
          have hexp : okAt f k = decide (0 < (f k).ver) := by simp [okAt, okE, cur, hc, hrd, zeroEv]
          by_cases hv : 0 < (f k).ver
          · refine seg cfg9_ok mixed PanicFree.body 1000 [true, true, false, false] [] hr2.rebase (by first | trivial | exact HpRep.nil | assumption) (by kernel_rfl) fun s_ hs_ => ?_
            simp (maxSteps := 10000000) [SX.vc, SX.stop, SX.contS, SX.contB, SX.contW, SX.contR, SX.contD, SX.sxStep, SX.stepPure, SX.stepNew, SX.stepStore, SX.stepKeep, SX.guardIx, SX.evOp, SX.opd, SX.opds, SX.optOpd, SX.look, SX.putS, SX.gobs, SX.AllP, SX.leave, SX.lookC, SX.lookB, SX.lookT, SX.lookN, SX.findK, SX.evBuiltin, SX.ints, SX.foldI, SX.evBin, SX.evInt, SX.evStr, SX.evEq, SX.arith, SX.evLoad, SX.shapeUp, SX.evFieldAddr, SX.evField, SX.evIndexAddr, SX.evIndex, SX.evFill, SX.evBuild, SX.szs, SX.cellsV, SX.evNew, SX.evStore, SX.spliceL, SX.SV.cells, SX.evConv, SX.evSlice, SX.bnd, SX.evNil, SX.evUn, SX.evPick, SX.pickOpd, SX.popTo, SX.cnd, SX.env0, SX.TD.isAgg, SX.TD.isIface, SX.tails, SX.NotAgg, SX.evLookup, SX.evConvH, SX.evPtrEq, SX.isCells, SX.thaw, SX.frz, SX.fixB, SX.rootIx, SX.Froz, SX.frzStep, SX.fork, Go.Value.cells, Go.undef, cfg9, jst, evRow, hlt, hm, hrd, hv]
            refine ⟨by (unfold SX.Ob; first | trivial | omega | ((try simp only [SX.inK]); (try simp [SX.den, SX.IsU8, SX.AllP, *]); (try omega))), ?_⟩
            intro a4 w4 hr4 _
            refine post_inv (jfin hlt hok hJ hr2 (by rw [hexp]; simp [hv]) ?_ hr4 rfl rfl (by simp [jst, envTo, SX.look]) (p := (⟨(f k).at_, (f k).lba, false, (f k).ver, (f k).by_⟩, (f k).at_)) (by simp only [hrd, Bool.false_eq_true, if_false]; rw [← hrd]))
            omega
          · refine seg cfg9_ok mixed PanicFree.body 1000 [true, true, false, true] [] hr2.rebase (by first | trivial | exact HpRep.nil | assumption) (by kernel_rfl) fun s_ hs_ => ?_
            simp (maxSteps := 10000000) [SX.vc, SX.stop, SX.contS, SX.contB, SX.contW, SX.contR, SX.contD, SX.sxStep, SX.stepPure, SX.stepNew, SX.stepStore, SX.stepKeep, SX.guardIx, SX.evOp, SX.opd, SX.opds, SX.optOpd, SX.look, SX.putS, SX.gobs, SX.AllP, SX.leave, SX.lookC, SX.lookB, SX.lookT, SX.lookN, SX.findK, SX.evBuiltin, SX.ints, SX.foldI, SX.evBin, SX.evInt, SX.evStr, SX.evEq, SX.arith, SX.evLoad, SX.shapeUp, SX.evFieldAddr, SX.evField, SX.evIndexAddr, SX.evIndex, SX.evFill, SX.evBuild, SX.szs, SX.cellsV, SX.evNew, SX.evStore, SX.spliceL, SX.SV.cells, SX.evConv, SX.evSlice, SX.bnd, SX.evNil, SX.evUn, SX.evPick, SX.pickOpd, SX.popTo, SX.cnd, SX.env0, SX.TD.isAgg, SX.TD.isIface, SX.tails, SX.NotAgg, SX.evLookup, SX.evConvH, SX.evPtrEq, SX.isCells, SX.thaw, SX.frz, SX.fixB, SX.rootIx, SX.Froz, SX.frzStep, SX.fork, Go.Value.cells, Go.undef, cfg9, jst, evRow, hlt, hm, hrd, hv]
            refine ⟨by (unfold SX.Ob; first | trivial | omega | ((try simp only [SX.inK]); (try simp [SX.den, SX.IsU8, SX.AllP, *]); (try omega))), ?_⟩
            intro a4 w4 hr4 _
            exact post_retn (end2 hr4 rfl rfl rfl ⟨k, false, rfl, (hr2.unbase hr4).keeps.toBelow, fun h => (by cases h), fun _ => ⟨hlt, by rw [hexp]; simp [hv], hok⟩⟩).1
      | some p0 =>
        obtain ⟨j1, j2, j3⟩ := hJ.1 _ _ hc
        have hr2' : RepX (frame0 w) (jst2 f n b o0 N cap u fz k M0 B (f k).lba p0) a2 w2 := by
          have hA := hr2.all
          refine hr2.re (by simp [jst, jst2, envTo, SX.look]) ⟨⟨hA.1.1, by simp, ?_⟩, ⟨imap_congr hA.2.1.1 (mAtT_same hc), hA.2.1.2.1, ?_⟩, ⟨j1, fun _ => .inl j2, by simp⟩, trivial⟩ rfl rfl
          · intro e he
            simp at he
            rcases he with rfl | rfl
            · exact hA.1.2.2 (M0, true, .imap (mAt f k B)) (by simp)
            · have := SO.rep_lt hb
              show b ≠ B (f k).lba
              omega
          · intro e he
            simp at he
            subst he
            exact fun h => j3 h.symm
        have hm : mAtT f k B (f k).lba (f k).lba = some (.ptr 2 (B (f k).lba) 0) := by simp [mAtT]
        have hcur : cur (stAt f k) (f k) = p0 := by simp [cur, hc]
        obtain ⟨p, pa⟩ := p0
        by_cases ha : pa ≤ (f k).at_
        · cases hrd : (f k).rd with
          | true =>
            have hexp : okAt f k = (decide ((f k).ver = p.ver) && decide ((f k).by_ = p.by_)) := by simp [okAt, okE, hcur, hrd, ha]
            by_cases hv : (f k).ver = p.ver
            · by_cases hv2 : (f k).by_ = p.by_
              · refine seg cfg9_ok mixed PanicFree.body 1000 [true, false, true, false] [] hr2'.rebase (by first | trivial | exact HpRep.nil | assumption) (by kernel_rfl) fun s_ hs_ => ?_
                simp (maxSteps := 10000000) [SX.vc, SX.stop, SX.contS, SX.contB, SX.contW, SX.contR, SX.contD, SX.sxStep, SX.stepPure, SX.stepNew, SX.stepStore, SX.stepKeep, SX.guardIx, SX.evOp, SX.opd, SX.opds, SX.optOpd, SX.look, SX.putS, SX.gobs, SX.AllP, SX.leave, SX.lookC, SX.lookB, SX.lookT, SX.lookN, SX.findK, SX.evBuiltin, SX.ints, SX.foldI, SX.evBin, SX.evInt, SX.evStr, SX.evEq, SX.arith, SX.evLoad, SX.shapeUp, SX.evFieldAddr, SX.evField, SX.evIndexAddr, SX.evIndex, SX.evFill, SX.evBuild, SX.szs, SX.cellsV, SX.evNew, SX.evStore, SX.spliceL, SX.SV.cells, SX.evConv, SX.evSlice, SX.bnd, SX.evNil, SX.evUn, SX.evPick, SX.pickOpd, SX.popTo, SX.cnd, SX.env0, SX.TD.isAgg, SX.TD.isIface, SX.tails, SX.NotAgg, SX.evLookup, SX.evConvH, SX.evPtrEq, SX.isCells, SX.thaw, SX.frz, SX.fixB, SX.rootIx, SX.Froz, SX.frzStep, SX.fork, Go.Value.cells, Go.undef, cfg9, jst2, stCells, evRow, hlt, hm, hrd, hv, hv2, ha]
                refine ⟨by (unfold SX.Ob; first | trivial | omega | ((try simp only [SX.inK]); (try simp [SX.den, SX.IsU8, SX.AllP, *]); (try omega))), ?_⟩
                intro a4 w4 hr4 _
                exact post_inv (jfin2 hlt hok hJ hc hr2' (by rw [hexp]; simp [hv, hv2]) hr4 rfl rfl (by simp [jst, envTo, SX.look]) (p := (p, (f k).at_)) (by simp [hrd, hcur]))
              · refine seg cfg9_ok mixed PanicFree.body 1000 [true, false, true, true] [] hr2'.rebase (by first | trivial | exact HpRep.nil | assumption) (by kernel_rfl) fun s_ hs_ => ?_
                simp (maxSteps := 10000000) [SX.vc, SX.stop, SX.contS, SX.contB, SX.contW, SX.contR, SX.contD, SX.sxStep, SX.stepPure, SX.stepNew, SX.stepStore, SX.stepKeep, SX.guardIx, SX.evOp, SX.opd, SX.opds, SX.optOpd, SX.look, SX.putS, SX.gobs, SX.AllP, SX.leave, SX.lookC, SX.lookB, SX.lookT, SX.lookN, SX.findK, SX.evBuiltin, SX.ints, SX.foldI, SX.evBin, SX.evInt, SX.evStr, SX.evEq, SX.arith, SX.evLoad, SX.shapeUp, SX.evFieldAddr, SX.evField, SX.evIndexAddr, SX.evIndex, SX.evFill, SX.evBuild, SX.szs, SX.cellsV, SX.evNew, SX.evStore, SX.spliceL, SX.SV.cells, SX.evConv, SX.evSlice, SX.bnd, SX.evNil, SX.evUn, SX.evPick, SX.pickOpd, SX.popTo, SX.cnd, SX.env0, SX.TD.isAgg, SX.TD.isIface, SX.tails, SX.NotAgg, SX.evLookup, SX.evConvH, SX.evPtrEq, SX.isCells, SX.thaw, SX.frz, SX.fixB, SX.rootIx, SX.Froz, SX.frzStep, SX.fork, Go.Value.cells, Go.undef, cfg9, jst2, stCells, evRow, hlt, hm, hrd, hv, hv2, ha]
                refine ⟨by (unfold SX.Ob; first | trivial | omega | ((try simp only [SX.inK]); (try simp [SX.den, SX.IsU8, SX.AllP, *]); (try omega))), ?_⟩
                intro a4 w4 hr4 _
                exact post_retn (end2 hr4 rfl rfl rfl ⟨k, false, rfl, (hr2'.unbase hr4).keeps.toBelow, fun h => (by cases h), fun _ => ⟨hlt, by rw [hexp]; simp [hv, hv2], hok⟩⟩).1
            · refine seg cfg9_ok mixed PanicFree.body 1000 [true, false, true, true] [] hr2'.rebase (by first | trivial | exact HpRep.nil | assumption) (by kernel_rfl) fun s_ hs_ => ?_
              simp (maxSteps := 10000000) [SX.vc, SX.stop, SX.contS, SX.contB, SX.contW, SX.contR, SX.contD, SX.sxStep, SX.stepPure, SX.stepNew, SX.stepStore, SX.stepKeep, SX.guardIx, SX.evOp, SX.opd, SX.opds, SX.optOpd, SX.look, SX.putS, SX.gobs, SX.AllP, SX.leave, SX.lookC, SX.lookB, SX.lookT, SX.lookN, SX.findK, SX.evBuiltin, SX.ints, SX.foldI, SX.evBin, SX.evInt, SX.evStr, SX.evEq, SX.arith, SX.evLoad, SX.shapeUp, SX.evFieldAddr, SX.evField, SX.evIndexAddr, SX.evIndex, SX.evFill, SX.evBuild, SX.szs, SX.cellsV, SX.evNew, SX.evStore, SX.spliceL, SX.SV.cells, SX.evConv, SX.evSlice, SX.bnd, SX.evNil, SX.evUn, SX.evPick, SX.pickOpd, SX.popTo, SX.cnd, SX.env0, SX.TD.isAgg, SX.TD.isIface, SX.tails, SX.NotAgg, SX.evLookup, SX.evConvH, SX.evPtrEq, SX.isCells, SX.thaw, SX.frz, SX.fixB, SX.rootIx, SX.Froz, SX.frzStep, SX.fork, Go.Value.cells, Go.undef, cfg9, jst2, stCells, evRow, hlt, hm, hrd, hv, ha]
              refine ⟨by (unfold SX.Ob; first | trivial | omega | ((try simp only [SX.inK]); (try simp [SX.den, SX.IsU8, SX.AllP, *]); (try omega))), ?_⟩
              intro a4 w4 hr4 _
              exact post_retn (end2 hr4 rfl rfl rfl ⟨k, false, rfl, (hr2'.unbase hr4).keeps.toBelow, fun h => (by cases h), fun _ => ⟨hlt, by rw [hexp]; simp [hv], hok⟩⟩).1
          | false =>
            have hexp : okAt f k = decide (p.ver < (f k).ver) := by simp [okAt, okE, hcur, hrd, ha]
            by_cases hv : p.ver < (f k).ver
            · refine seg cfg9_ok mixed PanicFree.body 1000 [true, false, false, false] [] hr2'.rebase (by first | trivial | exact HpRep.nil | assumption) (by kernel_rfl) fun s_ hs_ => ?_
              simp (maxSteps := 10000000) [SX.vc, SX.stop, SX.contS, SX.contB, SX.contW, SX.contR, SX.contD, SX.sxStep, SX.stepPure, SX.stepNew, SX.stepStore, SX.stepKeep, SX.guardIx, SX.evOp, SX.opd, SX.opds, SX.optOpd, SX.look, SX.putS, SX.gobs, SX.AllP, SX.leave, SX.lookC, SX.lookB, SX.lookT, SX.lookN, SX.findK, SX.evBuiltin, SX.ints, SX.foldI, SX.evBin, SX.evInt, SX.evStr, SX.evEq, SX.arith, SX.evLoad, SX.shapeUp, SX.evFieldAddr, SX.evField, SX.evIndexAddr, SX.evIndex, SX.evFill, SX.evBuild, SX.szs, SX.cellsV, SX.evNew, SX.evStore, SX.spliceL, SX.SV.cells, SX.evConv, SX.evSlice, SX.bnd, SX.evNil, SX.evUn, SX.evPick, SX.pickOpd, SX.popTo, SX.cnd, SX.env0, SX.TD.isAgg, SX.TD.isIface, SX.tails, SX.NotAgg, SX.evLookup, SX.evConvH, SX.evPtrEq, SX.isCells, SX.thaw, SX.frz, SX.fixB, SX.rootIx, SX.Froz, SX.frzStep, SX.fork, Go.Value.cells, Go.undef, cfg9, jst2, stCells, evRow, hlt, hm, hrd, hv, ha]
              refine ⟨by (unfold SX.Ob; first | trivial | omega | ((try simp only [SX.inK]); (try simp [SX.den, SX.IsU8, SX.AllP, *]); (try omega))), ?_⟩
              intro a4 w4 hr4 _
              exact post_inv (jfin2 hlt hok hJ hc hr2' (by rw [hexp]; simp [hv]) hr4 rfl rfl (by simp [jst, envTo, SX.look]) (p := (⟨(f k).at_, (f k).lba, false, (f k).ver, (f k).by_⟩, (f k).at_)) (by simp only [hrd, Bool.false_eq_true, if_false]; rw [← hrd]))
            · refine seg cfg9_ok mixed PanicFree.body 1000 [true, false, false, true] [] hr2'.rebase (by first | trivial | exact HpRep.nil | assumption) (by kernel_rfl) fun s_ hs_ => ?_
              simp (maxSteps := 10000000) [SX.vc, SX.stop, SX.contS, SX.contB, SX.contW, SX.contR, SX.contD, SX.sxStep, SX.stepPure, SX.stepNew, SX.stepStore, SX.stepKeep, SX.guardIx, SX.evOp, SX.opd, SX.opds, SX.optOpd, SX.look, SX.putS, SX.gobs, SX.AllP, SX.leave, SX.lookC, SX.lookB, SX.lookT, SX.lookN, SX.findK, SX.evBuiltin, SX.ints, SX.foldI, SX.evBin, SX.evInt, SX.evStr, SX.evEq, SX.arith, SX.evLoad, SX.shapeUp, SX.evFieldAddr, SX.evField, SX.evIndexAddr, SX.evIndex, SX.evFill, SX.evBuild, SX.szs, SX.cellsV, SX.evNew, SX.evStore, SX.spliceL, SX.SV.cells, SX.evConv, SX.evSlice, SX.bnd, SX.evNil, SX.evUn, SX.evPick, SX.pickOpd, SX.popTo, SX.cnd, SX.env0, SX.TD.isAgg, SX.TD.isIface, SX.tails, SX.NotAgg, SX.evLookup, SX.evConvH, SX.evPtrEq, SX.isCells, SX.thaw, SX.frz, SX.fixB, SX.rootIx, SX.Froz, SX.frzStep, SX.fork, Go.Value.cells, Go.undef, cfg9, jst2, stCells, evRow, hlt, hm, hrd, hv, ha]
              refine ⟨by (unfold SX.Ob; first | trivial | omega | ((try simp only [SX.inK]); (try simp [SX.den, SX.IsU8, SX.AllP, *]); (try omega))), ?_⟩
              intro a4 w4 hr4 _
              exact post_retn (end2 hr4 rfl rfl rfl ⟨k, false, rfl, (hr2'.unbase hr4).keeps.toBelow, fun h => (by cases h), fun _ => ⟨hlt, by rw [hexp]; simp [hv], hok⟩⟩).1
        · have hexp : okAt f k = false := by simp [okAt, okE, hcur, ha]
          cases hrd : (f k).rd with
          | true =>
            refine seg cfg9_ok mixed PanicFree.body 1000 [true, false, true, true] [] hr2'.rebase (by first | trivial | exact HpRep.nil | assumption) (by kernel_rfl) fun s_ hs_ => ?_
            simp (maxSteps := 10000000) [SX.vc, SX.stop, SX.contS, SX.contB, SX.contW, SX.contR, SX.contD, SX.sxStep, SX.stepPure, SX.stepNew, SX.stepStore, SX.stepKeep, SX.guardIx, SX.evOp, SX.opd, SX.opds, SX.optOpd, SX.look, SX.putS, SX.gobs, SX.AllP, SX.leave, SX.lookC, SX.lookB, SX.lookT, SX.lookN, SX.findK, SX.evBuiltin, SX.ints, SX.foldI, SX.evBin, SX.evInt, SX.evStr, SX.evEq, SX.arith, SX.evLoad, SX.shapeUp, SX.evFieldAddr, SX.evField, SX.evIndexAddr, SX.evIndex, SX.evFill, SX.evBuild, SX.szs, SX.cellsV, SX.evNew, SX.evStore, SX.spliceL, SX.SV.cells, SX.evConv, SX.evSlice, SX.bnd, SX.evNil, SX.evUn, SX.evPick, SX.pickOpd, SX.popTo, SX.cnd, SX.env0, SX.TD.isAgg, SX.TD.isIface, SX.tails, SX.NotAgg, SX.evLookup, SX.evConvH, SX.evPtrEq, SX.isCells, SX.thaw, SX.frz, SX.fixB, SX.rootIx, SX.Froz, SX.frzStep, SX.fork, Go.Value.cells, Go.undef, cfg9, jst2, stCells, evRow, hlt, hm, hrd, ha]
            refine ⟨by (unfold SX.Ob; first | trivial | omega | ((try simp only [SX.inK]); (try simp [SX.den, SX.IsU8, SX.AllP, *]); (try omega))), ?_⟩
            intro a4 w4 hr4 _
            exact post_retn (end2 hr4 rfl rfl rfl ⟨k, false, rfl, (hr2'.unbase hr4).keeps.toBelow, fun h => (by cases h), fun _ => ⟨hlt, hexp, hok⟩⟩).1
          | false =>
            refine seg cfg9_ok mixed PanicFree.body 1000 [true, false, false, true] [] hr2'.rebase (by first | trivial | exact HpRep.nil | assumption) (by kernel_rfl) fun s_ hs_ => ?_
            simp (maxSteps := 10000000) [SX.vc, SX.stop, SX.contS, SX.contB, SX.contW, SX.contR, SX.contD, SX.sxStep, SX.stepPure, SX.stepNew, SX.stepStore, SX.stepKeep, SX.guardIx, SX.evOp, SX.opd, SX.opds, SX.optOpd, SX.look, SX.putS, SX.gobs, SX.AllP, SX.leave, SX.lookC, SX.lookB, SX.lookT, SX.lookN, SX.findK, SX.evBuiltin, SX.ints, SX.foldI, SX.evBin, SX.evInt, SX.evStr, SX.evEq, SX.arith, SX.evLoad, SX.shapeUp, SX.evFieldAddr, SX.evField, SX.evIndexAddr, SX.evIndex, SX.evFill, SX.evBuild, SX.szs, SX.cellsV, SX.evNew, SX.evStore, SX.spliceL, SX.SV.cells, SX.evConv, SX.evSlice, SX.bnd, SX.evNil, SX.evUn, SX.evPick, SX.pickOpd, SX.popTo, SX.cnd, SX.env0, SX.TD.isAgg, SX.TD.isIface, SX.tails, SX.NotAgg, SX.evLookup, SX.evConvH, SX.evPtrEq, SX.isCells, SX.thaw, SX.frz, SX.fixB, SX.rootIx, SX.Froz, SX.frzStep, SX.fork, Go.Value.cells, Go.undef, cfg9, jst2, stCells, evRow, hlt, hm, hrd, ha]
            refine ⟨by (unfold SX.Ob; first | trivial | omega | ((try simp only [SX.inK]); (try simp [SX.den, SX.IsU8, SX.AllP, *]); (try omega))), ?_⟩
            intro a4 w4 hr4 _
            exact post_retn (end2 hr4 rfl rfl rfl ⟨k, false, rfl, (hr2'.unbase hr4).keeps.toBelow, fun h => (by cases h), fun _ => ⟨hlt, hexp, hok⟩⟩).1
    · obtain rfl : k = n := by omega
      refine seg cfg9_ok mixed PanicFree.body 1000 [false] [] hr2 (by first | trivial | exact HpRep.nil | assumption) (by kernel_rfl) fun s_ hs_ => ?_
      simp (maxSteps := 10000000) [SX.vc, SX.stop, SX.contS, SX.contB, SX.contW, SX.contR, SX.contD, SX.sxStep, SX.stepPure, SX.stepNew, SX.stepStore, SX.stepKeep, SX.guardIx, SX.evOp, SX.opd, SX.opds, SX.optOpd, SX.look, SX.putS, SX.gobs, SX.AllP, SX.leave, SX.lookC, SX.lookB, SX.lookT, SX.lookN, SX.findK, SX.evBuiltin, SX.ints, SX.foldI, SX.evBin, SX.evInt, SX.evStr, SX.evEq, SX.arith, SX.evLoad, SX.shapeUp, SX.evFieldAddr, SX.evField, SX.evIndexAddr, SX.evIndex, SX.evFill, SX.evBuild, SX.szs, SX.cellsV, SX.evNew, SX.evStore, SX.spliceL, SX.SV.cells, SX.evConv, SX.evSlice, SX.bnd, SX.evNil, SX.evUn, SX.evPick, SX.pickOpd, SX.popTo, SX.cnd, SX.env0, SX.TD.isAgg, SX.TD.isIface, SX.tails, SX.NotAgg, SX.evLookup, SX.evConvH, SX.evPtrEq, SX.isCells, SX.thaw, SX.frz, SX.fixB, SX.rootIx, SX.Froz, SX.frzStep, SX.fork, Go.Value.cells, Go.undef, cfg9, jst]
      refine ⟨by (unfold SX.Ob; first | trivial | omega | ((try simp only [SX.inK]); (try simp [SX.den, SX.IsU8, SX.AllP, *]); (try omega))), ?_⟩
      intro a3 w3 hr3 _
      exact post_retn (end2 hr3 rfl rfl rfl ⟨k, true, rfl, hr3.keeps.toBelow, fun _ => ⟨rfl, hok⟩, fun h => by cases h⟩).1
end Go.Proofs
