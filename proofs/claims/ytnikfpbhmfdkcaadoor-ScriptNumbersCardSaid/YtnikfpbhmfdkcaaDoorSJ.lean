/- Script: a number that is written. -/
import Derived.Test.YtnikfpbhmfdkcaaDoorSB
import Derived.Test.YtnikfpbhmfdkcaaDoorSI
namespace Go.Proofs
set_option linter.unusedVariables false
set_option linter.unusedSimpArgs false
set_option linter.unusedSectionVars false
open Go Go.SX Go.RowKit Go.Script

/-- The blocks that writing to a printer may turn: its own, and blocks of bytes from B on. -/
def mB (B b : Nat) (w : World) : List Nat := (List.range w.heap.size).filter fun k => k == b || (decide (B ≤ k) && isB5 w.heap[k]?)
theorem mem_mB {B b k : Nat} {w : World} : k ∈ mB B b w ↔ k < w.heap.size ∧ (k = b ∨ (B ≤ k ∧ isB5 w.heap[k]? = true)) := by
  simp [mB, List.mem_filter]
theorem mB_step {B b : Nat} {w w1 : World} (hk : KeepsTo w (mB B b w) w1) : ∀ x ∈ mB B b w1, w.heap.size ≤ x ∨ x ∈ mB B b w := by
  intro x hx
  obtain ⟨h1, h2⟩ := mem_mB.1 hx
  rcases Nat.lt_or_ge x w.heap.size with h | h
  · refine .inr ?_
    by_cases hm : x ∈ mB B b w
    · exact hm
    · have h3 := hk.block x h hm
      refine mem_mB.2 ⟨h, h2.imp id fun h4 => ⟨h4.1, ?_⟩⟩
      have h5 : w1.heap[x]? = w.heap[x]? := h3
      rw [← h5]
      exact h4.2
  · exact .inl h
theorem not_mB {B b k t : Nat} {w : World} {c : Array Value} {fz : Nat × Nat} (h : w.heap[k]? = some (.cells c t fz)) (hb : k ≠ b) (h5 : t ≠ 5) : k ∉ mB B b w := by
  intro hm
  obtain ⟨_, h2⟩ := mem_mB.1 hm
  rcases h2 with h2 | ⟨_, h2⟩
  · exact hb h2
  · rw [h] at h2
    simp [isB5] at h2
    exact h5 h2
theorem KeepsTo.wide {w w' : World} {M M' : List Nat} (h : KeepsTo w M w') (hM : ∀ x ∈ M, w.heap.size ≤ x ∨ x ∈ M') : KeepsTo w M' w' :=
  ⟨h.hB, h.os, h.tape, h.output, h.size, fun k hk hm => h.block k hk fun hx => (hM k hx).elim (fun h => by have hk' : k < w.heap.size := hk; omega) hm⟩
def PrA (B b : Nat) (bs : L8) (bad : Bool) (w : World) : Prop := ∃ g, PrB B b g bs bad w
theorem PrA.lt {B b : Nat} {bs : L8} {bad : Bool} {w : World} (h : PrA B b bs bad w) : b < w.heap.size := by obtain ⟨g, h⟩ := h; exact h.lt
theorem PrB.in_mB {B b g : Nat} {bs : L8} {bad : Bool} {w : World} (h : PrB B b g bs bad w) : ∀ x ∈ [b, g], w.heap.size ≤ x ∨ x ∈ mB B b w := by
  intro x hx
  simp only [List.mem_cons, List.not_mem_nil, or_false] at hx
  rcases hx with rfl | rfl
  · exact .inr (mem_mB.2 ⟨h.lt, .inl rfl⟩)
  · obtain ⟨h1, h2⟩ := h.gblk
    refine .inr (mem_mB.2 ⟨h.glt, h2.imp id fun ⟨c, h3⟩ => ⟨h1, ?_⟩⟩)
    rw [h3]
    rfl
theorem PrA.keep {B b : Nat} {bs : L8} {bad : Bool} {w w' : World} {M : List Nat} (h : PrA B b bs bad w) (hk : KeepsTo w M w') (hM : ∀ x ∈ M, x ∉ mB B b w) : PrA B b bs bad w' := by
  obtain ⟨g, h⟩ := h
  refine ⟨g, h.keep hk (fun hb => hM b hb (mem_mB.2 ⟨h.lt, .inl rfl⟩)) fun hg => ?_⟩
  rcases h.in_mB g (by simp) with h1 | h1
  · have := h.glt; omega
  · exact hM g hg h1
theorem writeByteA {B b : Nat} {bs : L8} {bad : Bool} {w : World} (c : UInt8) (h : PrA B b bs bad w) (hlen : bs.length + 1 ≤ 140737488355328) :
    Calls Tryd.prog 22 #[.pointer (some ⟨b, 0, none⟩), .int .u8 c.toNat] w fun e w' => e = .returned .nilIface ∧ PrA B b (bs ++ [c]) bad w' ∧ KeepsTo w (mB B b w) w' := by
  obtain ⟨g, h⟩ := h
  exact (writeByte_ok c h hlen).mono fun e w' ⟨he, g', h1, h2⟩ => ⟨he, ⟨g', h1⟩, KeepsTo.wide h2 h.in_mB⟩
theorem writeStringA {B b : Nat} {bs : L8} {bad : Bool} {w : World} (l : L8) (h : PrA B b bs bad w) (hl : l ≠ []) (hlen : bs.length + l.length ≤ 140737488355328) :
    Calls Tryd.prog 19 #[.pointer (some ⟨b, 0, none⟩), .string ⟨l.toArray⟩] w fun e w' => e = .returned (.tuple #[.int .i64 l.length, .nilIface]) ∧ PrA B b (bs ++ l) bad w' ∧ KeepsTo w (mB B b w) w' := by
  obtain ⟨g, h⟩ := h
  exact (writeString_ok l h hl hlen).mono fun e w' ⟨he, g', h1, h2⟩ => ⟨he, ⟨g', h1⟩, KeepsTo.wide h2 h.in_mB⟩
theorem writeA {B b : Nat} {bs : L8} {bad : Bool} {w : World} (l : L8) (k off c : Nat) (h : PrA B b bs bad w) (hl : l ≠ []) (hkb : k ≠ b) (hcell : ∀ j u, (Lib.byteCells l)[j]? = some u → w.cell? ⟨k, off + j, none⟩ = some u) (hlen : bs.length + l.length ≤ 140737488355328) :
    Calls Tryd.prog 29 #[.pointer (some ⟨b, 0, none⟩), .slice (some ⟨k, off, none⟩) l.length c] w fun e w' => e = .returned (.tuple #[.int .i64 l.length, .nilIface]) ∧ PrA B b (bs ++ l) bad w' ∧ KeepsTo w (mB B b w) w' := by
  obtain ⟨g, h⟩ := h
  exact (write_ok l k off c h hl hkb hcell hlen).mono fun e w' ⟨he, g', h1, h2⟩ => ⟨he, ⟨g', h1⟩, KeepsTo.wide h2 h.in_mB⟩
/-- A printer's bad sign is set. -/
theorem PrB.sign {B b g : Nat} {bs : L8} {bad : Bool} {w w' : World} {p v : Value} (hB : B ≤ b) (hp : p = .pointer none ∨ p = .pointer (some ⟨b, 0, none⟩)) (hb : w.heap[b]? = some (.cells #[p, v, .bool bad] 46 (0, 0))) (ho : w.ownsRow B 5 1 v bs.length (Lib.byteCells bs))
    (hv : (v = .slice none 0 0 ∧ g = b) ∨ (v.ownBlock = some g ∧ bs ≠ [])) (hk : KeepsTo w [b] w') {bad' : Bool} (hb' : w'.heap[b]? = some (.cells #[p, v, .bool bad'] 46 (0, 0))) : PrB B b g bs bad' w' := by
  refine ⟨hB, p, v, hp, hb', ownsRow_keep ho hk fun k hk1 e => ?_, hv⟩
  obtain rfl : k = b := by simpa using hk1
  rcases ho.2 with ⟨rfl, _⟩ | ⟨g', cap, cur, rfl, _, h2, _⟩
  · simp [Value.ownBlock] at e
  · simp only [Value.ownBlock, Option.some.injEq] at e
    subst e
    rw [hb] at h2
    cases h2

abbrev byR (G : Nat → Nat) : Nat → List SV := fun t => [.v (.int .u8 (G t))]
theorem rep_cell {w : World} {b t : Nat} {G : Nat → Nat} (h : (SO.arr 0 13 (byR G) 1 72 (0, 0)).rep w b) (ht : t < 13) : w.cell? ⟨b, t, none⟩ = some (.int .u8 (G t)) := by
  obtain ⟨c, h1, _, h2⟩ := h
  have h3 := (h2 t ht).2 0 (by omega)
  simp only [Nat.zero_add, Nat.mul_one, Nat.add_zero] at h3
  simp only [World.cell?, h1]
  simpa [denL, den] using h3
theorem exec_sliceA {w : World} {cB i : Nat} (hi : i < 13) : (Instr.sliceAt 72 (.pointer (some ⟨cB, 0, none⟩)) (some (.int .i64 i)) none none).run Tryd.prog w = .ok (.slice (some ⟨cB, i, none⟩) (13 - i) (13 - i)) w := by
  have hb := run_bounds (P := Tryd.prog) (w := w) (isSlice := false) (len := 13) (cap := 13) (lo := some (.v (.int .i64 i))) (hi := none) (l := some (i : Int)) (h := none) rfl rfl (by simp) (by simp; omega) (by simp)
  simp only [Option.map_some, den, Option.map_none, Option.getD_some, Option.getD_none, Int.toNat_natCast] at hb
  have hs := run_sizeOf' tok5 w
  have hne : ¬ 13 = i := by omega
  simp [Instr.sliceAt, run_underlying Tryd.underlying72, Instr.sureAddr, hb, hs, hne, add_none]
theorem exec_sliceO {st : St} {a : Act} (he : EnvRep st a) {o : Oper} {x lo : Operand} (hop : o.op = .slice 72 x (some lo) none none) {i k cB : Nat} (hx : opd st 0 x = some (.ptr k cB 0)) (hlo : opd st 0 lo = some (.v (.int .i64 i))) (hi : i < 13) (w : World) :
    (execOp a.eval o).run Tryd.prog w = .ok (.value (.slice (some ⟨cB, i, none⟩) (13 - i) (13 - i))) w := by
  have x4 : a.eval x = .pointer (some ⟨cB, 0, none⟩) := opd_sound he (c := 0) rfl hx
  have x34 : a.eval lo = .int .i64 i := opd_sound he (c := 0) rfl hlo
  have h8 := exec_sliceA (w := w) (cB := cB) hi
  simp only [execOp, hop, Option.map_some, Option.map_none, x4, x34, Sem.run_bind, h8, Result.andThen_ok, Sem.run_pure]
def NumPL (w : World) (b cB : Nat) (n : Nat) (m : Nat) (a : Act) (w' : World) : Prop :=
  ∃ (S : L8) (q : Nat) (G : Nat → Nat), m = 13 - S.length ∧ digs n = digs q ++ S ∧ (∀ t, t < S.length → G (13 - S.length + t) = (S.getD t 0).toNat) ∧
    RepX (frame0 w) ⟨[(5, 0, .v (.int .i64 (13 - S.length : Nat))), (4, 0, .ptr 0 cB 0), (1, 0, .v (.int .i64 q)), (0, 0, .ptr 0 b 0)], [(cB, true, .arr 0 13 (byR G) 1 72 (0, 0))], 0, 0, 37, [], [], []⟩ a w'
theorem rep_zeros {w : World} {b : Nat} (h : w.heap[b]? = some (.cells (denL (List.replicate 13 (.v (.int .u8 0)))).toArray 72 (0, 0))) : (SO.arr 0 13 (byR fun _ => 0) 1 72 (0, 0)).rep w b := by
  refine ⟨_, h, by decide, fun j hj => ⟨rfl, fun s hs => ?_⟩⟩
  obtain rfl : s = 0 := by omega
  match j, hj with
  | 0, _ => rfl
  | 1, _ => rfl
  | 2, _ => rfl
  | 3, _ => rfl
  | 4, _ => rfl
  | 5, _ => rfl
  | 6, _ => rfl
  | 7, _ => rfl
  | 8, _ => rfl
  | 9, _ => rfl
  | 10, _ => rfl
  | 11, _ => rfl
  | 12, _ => rfl
theorem RepX.wideF {w : World} {M : List Nat} {st : St} {a : Act} {w' : World} (h : RepX (frame0 w) st a w') : RepX ⟨w, w.heap.size, M⟩ st a w' :=
  ⟨h.env, h.hp, fun i b o hi => (h.mu i b o hi).imp id (fun hm => by cases hm), h.nd, h.sz, KeepsTo.wide h.kp fun x hx => by cases hx⟩

set_option maxRecDepth 100000 in
set_option maxHeartbeats 16000000 in
/-- number. -/
theorem numberP_ok (w : World) (B b : Nat) (bs : L8) (bad : Bool) (n : Int) (h : PrA B b bs bad w) (hlen : bs.length ≤ 1000000000000) : Calls Tryd.prog 20 (denL [.v (.pointer (some ⟨b, 0, none⟩)), .v (.int .i64 n)]).toArray w fun e w' =>
    e = .returned (.tuple #[]) ∧ PrA B b (numP ⟨bs, bad⟩ n).bs (numP ⟨bs, bad⟩ n).bad w' ∧ KeepsTo w (mB B b w) w' := by
  by_cases hbad : n < 0 ∨ 1000000000000 < n
  · have hn : numP ⟨bs, bad⟩ n = ⟨bs, true⟩ := by unfold numP; rw [if_pos hbad]
    rw [hn]
    have hbm : KeepsTo w [b] w → True := fun _ => trivial
    have hin : ∀ x ∈ [b], w.heap.size ≤ x ∨ x ∈ mB B b w := by obtain ⟨g, h⟩ := h; exact fun x hx => h.in_mB x (by simp at hx ⊢; exact .inl hx)
    obtain ⟨g, hB, p, v, hp, hb, ho, hv⟩ := h
    refine enter (F := ⟨w, w.heap.size, [b]⟩) Tryd.func20 rfl [.ptr 0 b 0, .v (.int .i64 n)] [(b, true, .cells [.v p, .v v, .v (.bool bad)] 46)] (by simp [Tryd.f20, denL, den]) ⟨⟨hb, fun _ => .inr (by simp), by simp⟩, trivial⟩ (KeepsTo.refl w _) fun a hr => ?_
    by_cases h0 : n < 0
    · refine seg cfg20_ok mixed PanicFree.body 1000 [true] [(8, true)] hr (by first | trivial | exact HpRep.nil | assumption) (by kernel_rfl) fun s_ hs_ => ?_
      simp (maxSteps := 10000000) [SX.vc, SX.stop, SX.contS, SX.contB, SX.contW, SX.contR, SX.contD, SX.sxStep, SX.stepPure, SX.stepNew, SX.stepStore, SX.stepKeep, SX.guardIx, SX.evOp, SX.opd, SX.opds, SX.optOpd, SX.look, SX.putS, SX.gobs, SX.AllP, SX.leave, SX.lookC, SX.lookB, SX.lookT, SX.lookN, SX.findK, SX.evBuiltin, SX.ints, SX.foldI, SX.evBin, SX.evInt, SX.evStr, SX.evEq, SX.arith, SX.evLoad, SX.shapeUp, SX.evFieldAddr, SX.evField, SX.evIndexAddr, SX.evIndex, SX.evFill, SX.evBuild, SX.szs, SX.cellsV, SX.evNew, SX.evStore, SX.spliceL, SX.SV.cells, SX.evConv, SX.evSlice, SX.bnd, SX.evNil, SX.evUn, SX.evPick, SX.pickOpd, SX.popTo, SX.cnd, SX.env0, SX.TD.isAgg, SX.TD.isIface, SX.tails, SX.NotAgg, SX.evLookup, SX.evConvH, SX.evPtrEq, SX.isCells, SX.thaw, SX.frz, SX.fixB, SX.rootIx, SX.Froz, SX.frzStep, SX.fork, Go.Value.cells, Go.undef, cfg20, Tryd.f20, h0]
      refine ⟨by (unfold SX.Ob; first | trivial | omega | ((try simp only [SX.inK]); (try simp [SX.den, SX.IsU8, SX.AllP, *]); (try omega))), ?_⟩
      intro a1 w1 hr1 _
      exact post_retn (end0 hr1 rfl ⟨rfl, ⟨g, PrB.sign hB hp hb ho hv hr1.keeps hr1.all.1.1⟩, KeepsTo.wide hr1.keeps hin⟩).1
    · have h1 : 1000000000000 < n := by omega
      refine seg cfg20_ok mixed PanicFree.body 1000 [true] [(8, false)] hr (by first | trivial | exact HpRep.nil | assumption) (by kernel_rfl) fun s_ hs_ => ?_
      simp (maxSteps := 10000000) [SX.vc, SX.stop, SX.contS, SX.contB, SX.contW, SX.contR, SX.contD, SX.sxStep, SX.stepPure, SX.stepNew, SX.stepStore, SX.stepKeep, SX.guardIx, SX.evOp, SX.opd, SX.opds, SX.optOpd, SX.look, SX.putS, SX.gobs, SX.AllP, SX.leave, SX.lookC, SX.lookB, SX.lookT, SX.lookN, SX.findK, SX.evBuiltin, SX.ints, SX.foldI, SX.evBin, SX.evInt, SX.evStr, SX.evEq, SX.arith, SX.evLoad, SX.shapeUp, SX.evFieldAddr, SX.evField, SX.evIndexAddr, SX.evIndex, SX.evFill, SX.evBuild, SX.szs, SX.cellsV, SX.evNew, SX.evStore, SX.spliceL, SX.SV.cells, SX.evConv, SX.evSlice, SX.bnd, SX.evNil, SX.evUn, SX.evPick, SX.pickOpd, SX.popTo, SX.cnd, SX.env0, SX.TD.isAgg, SX.TD.isIface, SX.tails, SX.NotAgg, SX.evLookup, SX.evConvH, SX.evPtrEq, SX.isCells, SX.thaw, SX.frz, SX.fixB, SX.rootIx, SX.Froz, SX.frzStep, SX.fork, Go.Value.cells, Go.undef, cfg20, Tryd.f20, h0, h1]
      refine ⟨by (unfold SX.Ob; first | trivial | omega | ((try simp only [SX.inK]); (try simp [SX.den, SX.IsU8, SX.AllP, *]); (try omega))), ?_⟩
      intro a1 w1 hr1 _
      exact post_retn (end0 hr1 rfl ⟨rfl, ⟨g, PrB.sign hB hp hb ho hv hr1.keeps hr1.all.1.1⟩, KeepsTo.wide hr1.keeps hin⟩).1
  obtain ⟨n, rfl⟩ : ∃ k : Nat, n = k := ⟨n.toNat, by omega⟩
  have hn : numP ⟨bs, bad⟩ n = ⟨bs ++ 32 :: digs n, bad⟩ := by unfold numP; rw [if_neg hbad]; rfl
  rw [hn]
  have hD := digs_len n 12 (by omega)
  have h0 : ¬ (n : Int) < 0 := by omega
  have h1 : ¬ 1000000000000 < (n : Int) := by omega
  refine enter (F := frame0 w) Tryd.func20 rfl [.ptr 0 b 0, .v (.int .i64 n)] [] (by simp [Tryd.f20, denL, den]) trivial (KeepsTo.refl w _) fun a hr => ?_
  refine seg cfg20_ok mixed PanicFree.body 1000 [false] [(8, false)] hr (by first | trivial | exact HpRep.nil | assumption) (by kernel_rfl) fun cB hcB => ?_
  simp (maxSteps := 10000000) [SX.vc, SX.stop, SX.contS, SX.contB, SX.contW, SX.contR, SX.contD, SX.sxStep, SX.stepPure, SX.stepNew, SX.stepStore, SX.stepKeep, SX.guardIx, SX.evOp, SX.opd, SX.opds, SX.optOpd, SX.look, SX.putS, SX.gobs, SX.AllP, SX.leave, SX.lookC, SX.lookB, SX.lookT, SX.lookN, SX.findK, SX.evBuiltin, SX.ints, SX.foldI, SX.evBin, SX.evInt, SX.evStr, SX.evEq, SX.arith, SX.evLoad, SX.shapeUp, SX.evFieldAddr, SX.evField, SX.evIndexAddr, SX.evIndex, SX.evFill, SX.evBuild, SX.szs, SX.cellsV, SX.evNew, SX.evStore, SX.spliceL, SX.SV.cells, SX.evConv, SX.evSlice, SX.bnd, SX.evNil, SX.evUn, SX.evPick, SX.pickOpd, SX.popTo, SX.cnd, SX.env0, SX.TD.isAgg, SX.TD.isIface, SX.tails, SX.NotAgg, SX.evLookup, SX.evConvH, SX.evPtrEq, SX.isCells, SX.thaw, SX.frz, SX.fixB, SX.rootIx, SX.Froz, SX.frzStep, SX.fork, Go.Value.cells, Go.undef, cfg20, Tryd.f20, h0, h1]
  refine ⟨by (unfold SX.Ob; first | trivial | omega | ((try simp only [SX.inK]); (try simp [SX.den, SX.IsU8, SX.AllP, *]); (try omega))), ?_⟩
  intro a1 w1 hr1 _
  have hA1 := hr1.all
  refine post_loop (NumPL w b cB n) _ ⟨[], n, fun _ => 0, rfl, by simp, by simp, hr1.re (by simp [envTo, SX.look]) ⟨⟨rep_zeros hA1.1.1, hA1.1.2.1, by simp⟩, trivial⟩ rfl rfl⟩ ?_
  clear hr hr1 hA1
  rintro m a2 w2 ⟨S, q, G, rfl, hS, hG, hr2⟩
  have hS1 : S.length + 1 ≤ 13 := by
    have h2 := digs_pos q
    rw [hS, List.length_append] at hD
    omega
  obtain ⟨i, hi⟩ : ∃ i, i + 1 = 13 - S.length := ⟨12 - S.length, by omega⟩
  have hii : ((13 - S.length : Nat) : Int) - 1 = (i : Int) := by omega
  have hi13 : (i : Int) < 13 := by omega
  have hi13n : i < 13 := by omega
  obtain ⟨r, hr10⟩ : ∃ r, q % 10 = r := ⟨_, rfl⟩
  obtain ⟨q1, hq1⟩ : ∃ q1, q / 10 = q1 := ⟨_, rfl⟩
  have e2 : (q : Int).tmod 10 = (r : Int) := by rw [Int.tmod_eq_emod_of_nonneg (by omega)]; omega
  have e1 : (q : Int).tdiv 10 = (q1 : Int) := by rw [Int.tdiv_eq_ediv_of_nonneg (by omega)]; omega
  have hr9 : (r : Int) < 10 := by omega
  have hq1b : (q1 : Int) ≤ 10000000000000 := by
    have h2 := valL_lt _ (digs q) rfl (digs_all q)
    rw [valL_digs] at h2
    have h3 : (10 : Nat) ^ (digs q).length ≤ 10 ^ 13 := Nat.pow_le_pow_right (by omega) (by rw [hS, List.length_append] at hD; omega)
    omega
  have hw : IntKind.u8.wrap (48 + (r : Int)) = ((dig r).toNat : Int) := by
    rw [dig_toNat (by omega)]
    simp [IntKind.wrap, IntKind.bits, IntKind.signed]
    omega
  have hrow : ∀ w3 : World, (SO.arr 0 13 (setRow (byR G) i [.v (.int .u8 (IntKind.u8.wrap (48 + (r : Int))))]) 1 72 (0, 0)).rep w3 cB → (SO.arr 0 13 (byR fun t => if t = i then (dig r).toNat else G t) 1 72 (0, 0)).rep w3 cB := fun w3 h3 => rep_arr_sub h3 (Nat.le_refl _) fun j _ => by
    unfold setRow
    by_cases hj : j = i
    · simp [hj, denL, den, hw, byR]
    · simp [hj, byR]
  have hG' : ∀ t, t < (dig r :: S).length → (if 13 - (dig r :: S).length + t = i then (dig r).toNat else G (13 - (dig r :: S).length + t)) = ((dig r :: S).getD t 0).toNat := by
    intro t ht
    simp only [List.length_cons] at ht ⊢
    rcases t with _ | t
    · rw [if_pos (by omega)]
      rfl
    · rw [if_neg (by omega)]
      have := hG t (by omega)
      rw [show 13 - (S.length + 1) + (t + 1) = 13 - S.length + t by omega, this]
      rfl
  by_cases hlast : q1 = 0
  rotate_left
  · have hz : ¬ (q1 : Int) = 0 := by omega
    refine seg cfg20_ok mixed PanicFree.body 1000 [false] [] hr2 (by first | trivial | exact HpRep.nil | assumption) (by kernel_rfl) fun s_ hs_ => ?_
    simp (maxSteps := 10000000) [SX.vc, SX.stop, SX.contS, SX.contB, SX.contW, SX.contR, SX.contD, SX.sxStep, SX.stepPure, SX.stepNew, SX.stepStore, SX.stepKeep, SX.guardIx, SX.evOp, SX.opd, SX.opds, SX.optOpd, SX.look, SX.putS, SX.gobs, SX.AllP, SX.leave, SX.lookC, SX.lookB, SX.lookT, SX.lookN, SX.findK, SX.evBuiltin, SX.ints, SX.foldI, SX.evBin, SX.evInt, SX.evStr, SX.evEq, SX.arith, SX.evLoad, SX.shapeUp, SX.evFieldAddr, SX.evField, SX.evIndexAddr, SX.evIndex, SX.evFill, SX.evBuild, SX.szs, SX.cellsV, SX.evNew, SX.evStore, SX.spliceL, SX.SV.cells, SX.evConv, SX.evSlice, SX.bnd, SX.evNil, SX.evUn, SX.evPick, SX.pickOpd, SX.popTo, SX.cnd, SX.env0, SX.TD.isAgg, SX.TD.isIface, SX.tails, SX.NotAgg, SX.evLookup, SX.evConvH, SX.evPtrEq, SX.isCells, SX.thaw, SX.frz, SX.fixB, SX.rootIx, SX.Froz, SX.frzStep, SX.fork, Go.Value.cells, Go.undef, cfg20, hii, hi13, hi13n, e1, e2, hz, byR, hr9, hq1b]
    refine ⟨by (unfold SX.Ob; first | trivial | omega | ((try simp only [SX.inK]); (try simp [SX.den, SX.IsU8, SX.AllP, *]); (try omega))), ?_⟩
    intro a3 w3 hr3 _
    have hA3 := hr3.all
    refine post_rnd (13 - (dig r :: S).length) (by simp only [List.length_cons]; omega) ⟨dig r :: S, q1, _, rfl, ?_, hG', hr3.re ?_ ⟨⟨hrow _ hA3.1.1, hA3.1.2.1, by simp⟩, trivial⟩ rfl rfl⟩
    · rw [hS, digs_ge (n := q) (by omega), hq1, hr10]
      simp
    · have he2 : 12 - S.length = i := by omega
      simp [envTo, SX.look, he2]
  have hz : (q1 : Int) = 0 := by omega
  have hDn : digs n = dig r :: S := by
    rw [hS, digs_lt (n := q) (by omega), show q = r by omega]
    rfl
  rw [← hDn] at hG'
  obtain ⟨ld, hld⟩ : ∃ ld, (digs n).length = ld := ⟨_, rfl⟩
  have hil : i + ld = 13 := by
    rw [← hld, hDn, List.length_cons]
    omega
  refine seg cfg20_ok mixed PanicFree.body 1000 [true] [] hr2 (by first | trivial | exact HpRep.nil | assumption) (by kernel_rfl) fun s_ hs_ => ?_
  simp (maxSteps := 10000000) [SX.vc, SX.stop, SX.contS, SX.contB, SX.contW, SX.contR, SX.contD, SX.sxStep, SX.stepPure, SX.stepNew, SX.stepStore, SX.stepKeep, SX.guardIx, SX.evOp, SX.opd, SX.opds, SX.optOpd, SX.look, SX.putS, SX.gobs, SX.AllP, SX.leave, SX.lookC, SX.lookB, SX.lookT, SX.lookN, SX.findK, SX.evBuiltin, SX.ints, SX.foldI, SX.evBin, SX.evInt, SX.evStr, SX.evEq, SX.arith, SX.evLoad, SX.shapeUp, SX.evFieldAddr, SX.evField, SX.evIndexAddr, SX.evIndex, SX.evFill, SX.evBuild, SX.szs, SX.cellsV, SX.evNew, SX.evStore, SX.spliceL, SX.SV.cells, SX.evConv, SX.evSlice, SX.bnd, SX.evNil, SX.evUn, SX.evPick, SX.pickOpd, SX.popTo, SX.cnd, SX.env0, SX.TD.isAgg, SX.TD.isIface, SX.tails, SX.NotAgg, SX.evLookup, SX.evConvH, SX.evPtrEq, SX.isCells, SX.thaw, SX.frz, SX.fixB, SX.rootIx, SX.Froz, SX.frzStep, SX.fork, Go.Value.cells, Go.undef, cfg20, hii, hi13, hi13n, e1, e2, hz, byR, hr9, hq1b]
  refine ⟨by (unfold SX.Ob; first | trivial | omega | ((try simp only [SX.inK]); (try simp [SX.den, SX.IsU8, SX.AllP, *]); (try omega))), ?_⟩
  intro a3 w3 hr3 _
  have hrep3 := hrow _ hr3.all.1.1
  have hmu3 := hr3.all.1.2.1
  have hP3 := h.keep hr3.keeps (by intro x hx; cases hx)
  have hcb : cB ≠ b := by
    have := h.lt
    rcases hmu3 rfl with h2 | h2
    · have h3 : w.heap.size ≤ cB := h2
      omega
    · cases h2
  have hk3 : KeepsTo w (mB B b w) w3 := KeepsTo.wide hr3.keeps (by intro x hx; cases hx)
  have hF3 := RepX.wideF (M := mB B b w) hr3
  refine post_call 22 [.ptr 0 b 0, .v (.int .u8 32)] hF3 (wanted_none rfl) rfl (callable 22 Tryd.func22) (writeByteA 32 hP3 (by omega)) ?_
  rintro e4 w4 ⟨rfl, hP4, hk4⟩
  refine ⟨_, rfl, ?_⟩
  have hn3 : cB ∉ mB B b w3 := by
    obtain ⟨c, hc, _⟩ := hrep3
    exact not_mB hc hcb (by decide)
  have hrep4 : (SO.arr 0 13 (byR fun t => if t = i then (dig r).toNat else G t) 1 72 (0, 0)).rep w4 cB := hk4.same hrep3 hn3
  have h4 := hF3.retK hk4 (mB_step hk3) 30 (.v .nilIface) rfl [(cB, true, .arr 0 13 (byR fun t => if t = i then (dig r).toNat else G t) 1 72 (0, 0))] ⟨⟨hrep4, fun _ => .inl (by rcases hmu3 rfl with h2 | h2; exact h2; cases h2), by simp⟩, trivial⟩ (by simp) rfl
  refine seg cfg20_ok mixed PanicFree.body 1000 [] [] h4.rebase (by first | trivial | exact HpRep.nil | assumption) (by kernel_rfl) fun s_ hs_ => ?_
  simp (maxSteps := 10000000) [SX.vc, SX.stop, SX.contS, SX.contB, SX.contW, SX.contR, SX.contD, SX.sxStep, SX.stepPure, SX.stepNew, SX.stepStore, SX.stepKeep, SX.guardIx, SX.evOp, SX.opd, SX.opds, SX.optOpd, SX.look, SX.putS, SX.gobs, SX.AllP, SX.leave, SX.lookC, SX.lookB, SX.lookT, SX.lookN, SX.findK, SX.evBuiltin, SX.ints, SX.foldI, SX.evBin, SX.evInt, SX.evStr, SX.evEq, SX.arith, SX.evLoad, SX.shapeUp, SX.evFieldAddr, SX.evField, SX.evIndexAddr, SX.evIndex, SX.evFill, SX.evBuild, SX.szs, SX.cellsV, SX.evNew, SX.evStore, SX.spliceL, SX.SV.cells, SX.evConv, SX.evSlice, SX.bnd, SX.evNil, SX.evUn, SX.evPick, SX.pickOpd, SX.popTo, SX.cnd, SX.env0, SX.TD.isAgg, SX.TD.isIface, SX.tails, SX.NotAgg, SX.evLookup, SX.evConvH, SX.evPtrEq, SX.isCells, SX.thaw, SX.frz, SX.fixB, SX.rootIx, SX.Froz, SX.frzStep, SX.fork, Go.Value.cells, Go.undef, cfg20]
  refine ⟨by (unfold SX.Ob; first | trivial | omega | ((try simp only [SX.inK]); (try simp [SX.den, SX.IsU8, SX.AllP, *]); (try omega))), ?_⟩
  intro a5 w5 hr5' ht5
  have hr5 := h4.unbase hr5'
  have hn4 : cB ∉ mB B b w4 := by
    obtain ⟨c, hc, _⟩ := hrep4
    exact not_mB hc hcb (by decide)
  have hP5 := hP4.keep hr5'.keeps (by intro x hx; simp [frameAt, mutB] at hx; rw [hx]; exact hn4)
  have hk4' : KeepsTo w (mB B b w) w4 := h4.keeps
  have hk5 : KeepsTo w (mB B b w) w5 := hr5.keeps
  have hrep5 := hr5.all.1.1
  have hn5 : cB ∉ mB B b w5 := by
    obtain ⟨c, hc, _⟩ := hrep5
    exact not_mB hc hcb (by decide)
  have e35 : 13 - i = ld := by omega
  refine post_stepD0 rfl (wanted_none rfl) (v := .slice (some ⟨cB, i, none⟩) ld ld) (fun w' _ => ?_) ?_
  · rw [← e35]
    exact exec_sliceO (hr5.env.same (st' := _) rfl rfl rfl rfl) rfl (k := 0) (i := i) (cB := cB) rfl rfl hi13n w'
  have hr6 := hr5.retK (KeepsTo.refl w5 []) (by simp) 35 (.v (.slice (some ⟨cB, i, none⟩) ld ld)) rfl _ hr5.all (by simp) rfl
  have hcells : ∀ j u, (Lib.byteCells (digs n))[j]? = some u → w5.cell? ⟨cB, i + j, none⟩ = some u := by
    intro j u hj
    have hj2 : j < (digs n).length := by
      rcases Nat.lt_or_ge j (digs n).length with h7 | h7
      · exact h7
      · rw [List.getElem?_eq_none (by simpa [Lib.byteCells] using h7)] at hj; cases hj
    rw [rep_cell hrep5 (by omega), ← hj]
    have h8 := hG' j hj2
    rw [hld, show 13 - ld = i by omega] at h8
    rw [h8]
    simp [Lib.byteCells, List.getElem?_eq_getElem hj2, List.getD_eq_getElem?_getD]
  have hcon := writeA (digs n) cB i ld hP5 (digs_ne n) hcb hcells (by simp; omega)
  rw [hld] at hcon
  refine post_callD 29 [.ptr 0 b 0, .v (.slice (some ⟨cB, i, none⟩) ld ld)] hr6 rfl (wanted_none rfl) rfl (callable 29 Tryd.func29) hcon ?_
  rintro e7 w7 ⟨rfl, hP7, hk7⟩
  have hr7 := hr6.retK hk7 (mB_step hk5) 36 (.tu [.v (.int .i64 ld), .v .nilIface]) rfl [(cB, true, .arr 0 13 (byR fun t => if t = i then (dig r).toNat else G t) 1 72 (0, 0))] ⟨⟨hk7.same hrep5 hn5, hr5.all.1.2.1, by simp⟩, trivial⟩ (by simp) rfl
  have ht7 : HpRep [(cB, true, .arr 0 13 (byR fun t => if t = i then (dig r).toNat else G t) 1 72 (0, 0))] w7 := hr7.hp
  refine ⟨_, rfl, ht7, ?_⟩
  have hn7 : cB ∉ mB B b w7 := by
    obtain ⟨c, hc, _⟩ := hr7.all.1.1
    exact not_mB hc hcb (by decide)
  refine seg cfg20_ok mixed PanicFree.body 1000 [] [] hr7.rebase (by first | trivial | exact HpRep.nil | assumption) (by kernel_rfl) fun s_ hs_ => ?_
  simp (maxSteps := 10000000) [SX.vc, SX.stop, SX.contS, SX.contB, SX.contW, SX.contR, SX.contD, SX.sxStep, SX.stepPure, SX.stepNew, SX.stepStore, SX.stepKeep, SX.guardIx, SX.evOp, SX.opd, SX.opds, SX.optOpd, SX.look, SX.putS, SX.gobs, SX.AllP, SX.leave, SX.lookC, SX.lookB, SX.lookT, SX.lookN, SX.findK, SX.evBuiltin, SX.ints, SX.foldI, SX.evBin, SX.evInt, SX.evStr, SX.evEq, SX.arith, SX.evLoad, SX.shapeUp, SX.evFieldAddr, SX.evField, SX.evIndexAddr, SX.evIndex, SX.evFill, SX.evBuild, SX.szs, SX.cellsV, SX.evNew, SX.evStore, SX.spliceL, SX.SV.cells, SX.evConv, SX.evSlice, SX.bnd, SX.evNil, SX.evUn, SX.evPick, SX.pickOpd, SX.popTo, SX.cnd, SX.env0, SX.TD.isAgg, SX.TD.isIface, SX.tails, SX.NotAgg, SX.evLookup, SX.evConvH, SX.evPtrEq, SX.isCells, SX.thaw, SX.frz, SX.fixB, SX.rootIx, SX.Froz, SX.frzStep, SX.fork, Go.Value.cells, Go.undef, cfg20]
  refine ⟨by (unfold SX.Ob; first | trivial | omega | ((try simp only [SX.inK]); (try simp [SX.den, SX.IsU8, SX.AllP, *]); (try omega))), ?_⟩
  intro a8 w8 hr8' _
  have hr8 := hr7.unbase hr8'
  have hP8 := hP7.keep hr8'.keeps (by intro x hx; simp [frameAt, mutB] at hx; rw [hx]; exact hn7)
  exact post_nil (end0 hr8 rfl ⟨rfl, by simpa using hP8, hr8.keeps⟩).2
end Go.Proofs
