/- The cache: Fill. -/
import Derived.Test.YtppgccbloaijoaaCN
namespace Go.Proofs
set_option linter.unusedVariables false
set_option linter.unusedSimpArgs false
open Go Go.SX Go.RowKit Go.Ring

open Classical in
noncomputable def frP (w : World) (P : Nat → Prop) : Fr := ⟨w, w.heap.size, (List.range w.heap.size).filter fun x => decide (P x)⟩

theorem frP_in {w : World} {P : Nat → Prop} : ∀ x, P x → (frP w P).B ≤ x ∨ x ∈ (frP w P).M := by
  intro x hx
  by_cases h : w.heap.size ≤ x
  · exact .inl h
  · exact .inr (by simp [frP, hx]; omega)

theorem frP_cha {w w' : World} {P : Nat → Prop} (h : Keeps (frP w P) w') : Cha P w w' := ⟨_, h, fun x hx => by simp [frP] at hx; exact hx.2⟩

theorem keepsP (w : World) (P : Nat → Prop) : Keeps (frP w P) w := KeepsTo.refl w _

theorem _root_.Go.SX.RepX.retP {F : Fr} {st : St} {a : Act} {w w' : World} {P : Nat → Prop} (h : RepX F st a w) (hk : Cha P w w') (hP : ∀ x, P x → F.B ≤ x ∨ x ∈ F.M) (d : Nat) (x : SV) {v : Value} (hv : v = den x) (H : Hp) (hH : HpAll F w' H) (hd : d < st.nt)
    (hks : st.ks.all (fun r => r.tj != d) = true) : RepX F { st with env := (d, 0, x) :: st.env, hp := H } (a.put (some d) v) w' := by
  obtain ⟨M, h1, h2⟩ := hk
  exact h.retK h1 (fun b hb => hP b (h2 b hb)) d x hv H hH hd hks

def fillL (m : Int) (A : List It) (lba ver : Int) (g : Nat → Nat → Int) : Nat → List It
  | 0 => A
  | k + 1 => putL m (fillL m A lba ver g k) ⟨lba + k, ver, g k⟩

def FillLoop (P : Nat → Prop) (w : World) (c : Nat) (most hits fails : Int) (A : List It) (lba ver : Int) (g : Nat → Nat → Int) (T : Nat → Nat) (cp : Nat → Nat) (n b cap N : Nat) (u : TypeId) (m : Nat) (a : Act) (w' : World) : Prop :=
  ∃ k : Nat, m = n - k ∧ k ≤ n ∧ CS P w' c most hits fails (fillL most A lba ver g k) ∧ (∀ j, j < n → Blk w' (T j) (cp j) (g j)) ∧
    RepX (frP w P) ⟨[(14, 0, .v (.int .i64 k)), (13, 0, .v (.int .i64 n)), (12, 0, .sl 0 b 0 0 n cap 1), (2, 0, .v (.int .i64 ver)), (1, 0, .v (.int .i64 lba)), (0, 0, .v (.pointer (some ⟨c, 0, none⟩)))], [(b, false, .arr 0 N (fun j => [.v (.slice (some ⟨T j, 0, none⟩) 16 (cp j))]) 1 u (0, 0))], 0, 0, 30, [], [], []⟩ a w'

def FillS (P : Nat → Prop) (w : World) (c : Nat) (most hits fails : Int) (A : List It) (lba ver : Int) (g : Nat → Nat → Int) (n : Nat) (e : Ending) (w' : World) : Prop :=
  e = .returned (.int .i64 0) ∧ Cha P w w' ∧ CS P w' c most hits fails (fillL most A lba ver g n)

set_option maxRecDepth 100000 in
set_option maxHeartbeats 8000000 in
theorem fill_ok (P : Nat → Prop) (w : World) (c : Nat) (most hits fails : Int) (A : List It) (hS : CS P w c most hits fails A) (hP : ∀ x, w.heap.size ≤ x → P x) (lba ver : Int) (hl : 0 ≤ lba) (hv : 0 ≤ ver) (g : Nat → Nat → Int) (T cp : Nat → Nat) (n b cap N : Nat) (u : TypeId)
    (hin : lba + n ≤ 9223372036854775807) (hb : SO.rep w b (.arr 0 N (fun j => [.v (.slice (some ⟨T j, 0, none⟩) 16 (cp j))]) 1 u (0, 0))) (hN : n ≤ N) (hT : ∀ j, j < n → Blk w (T j) (cp j) (g j) ∧ ¬ P (T j)) (hbP : ¬ P b) :
    Calls Try.prog 16 (denL [.v (.pointer (some ⟨c, 0, none⟩)), .v (.int .i64 lba), .v (.int .i64 ver), .sl 0 b 0 0 n cap 1]).toArray w (FillS P w c most hits fails A lba ver g n) := by
  have hE : HpAll (frP w P) w [(b, false, .arr 0 N (fun j => [.v (.slice (some ⟨T j, 0, none⟩) 16 (cp j))]) 1 u (0, 0))] := ⟨⟨hb, by simp, by simp⟩, trivial⟩
  refine enter (F := frP w P) Try.func16 rfl [.v (.pointer (some ⟨c, 0, none⟩)), .v (.int .i64 lba), .v (.int .i64 ver), .sl 0 b 0 0 n cap 1] _ (by simp [Try.f16]) hE (keepsP w P) fun a hr => ?_
  refine seg cfg16_ok mixed PanicFree.body 1000 [] [] hr.rebase (by first | trivial | exact HpRep.nil | assumption) (by kernel_rfl) fun s_ hs_ => ?_
  simp [SX.vc, SX.stop, SX.contS, SX.contB, SX.contW, SX.contR, SX.contD, SX.sxStep, SX.stepPure, SX.stepNew, SX.stepStore, SX.stepKeep, SX.guardIx, SX.evOp, SX.opd, SX.opds, SX.optOpd, SX.look, SX.putS, SX.gobs, SX.AllP, SX.leave, SX.lookC, SX.lookB, SX.lookT, SX.lookN, SX.findK, SX.evBuiltin, SX.ints, SX.foldI, SX.evBin, SX.evInt, SX.evStr, SX.evEq, SX.arith, SX.evLoad, SX.shapeUp, SX.evFieldAddr, SX.evField, SX.evIndexAddr, SX.evIndex, SX.evFill, SX.evBuild, SX.szs, SX.cellsV, SX.evNew, SX.evStore, SX.spliceL, SX.SV.cells, SX.evConv, SX.evSlice, SX.bnd, SX.evNil, SX.evUn, SX.evPick, SX.pickOpd, SX.popTo, SX.cnd, SX.env0, SX.TD.isAgg, SX.TD.isIface, SX.tails, SX.NotAgg, SX.evLookup, SX.evConvH, SX.evPtrEq, SX.isCells, Go.Value.cells, cfg16, Try.f16]
  refine ⟨by (unfold SX.Ob; first | trivial | omega | ((try simp only [SX.inK]); (try simp [SX.den, SX.IsU8, *]); (try omega))), ?_⟩
  intro a1 w1 hr1' _
  have hr1 := hr.unbase hr1'
  have hb1 : Below w.heap.size w w1 := by simpa [mutB] using hr1'.keeps.toBelow
  refine post_loop (FillLoop P w c most hits fails A lba ver g T cp n b cap N u) n ⟨0, rfl, by omega, hS.keep hb1, fun j hj => ?_, hr1.re (by simp [envTo, SX.look]) hr1.all rfl rfl⟩ ?_
  · obtain ⟨u', hu⟩ := (hT j hj).1
    exact ⟨u', SO.rep_same hu (hb1.block _ (SO.rep_lt hu))⟩
  clear hr hr1 hr1' hE
  rintro m a2 w2 ⟨k, rfl, hk, hS2, hB2, hr2⟩
  by_cases hlt : k < n
  · refine seg cfg16_ok mixed PanicFree.body 1000 [true] [] hr2.rebase (by first | trivial | exact HpRep.nil | assumption) (by kernel_rfl) fun s_ hs_ => ?_
    simp [SX.vc, SX.stop, SX.contS, SX.contB, SX.contW, SX.contR, SX.contD, SX.sxStep, SX.stepPure, SX.stepNew, SX.stepStore, SX.stepKeep, SX.guardIx, SX.evOp, SX.opd, SX.opds, SX.optOpd, SX.look, SX.putS, SX.gobs, SX.AllP, SX.leave, SX.lookC, SX.lookB, SX.lookT, SX.lookN, SX.findK, SX.evBuiltin, SX.ints, SX.foldI, SX.evBin, SX.evInt, SX.evStr, SX.evEq, SX.arith, SX.evLoad, SX.shapeUp, SX.evFieldAddr, SX.evField, SX.evIndexAddr, SX.evIndex, SX.evFill, SX.evBuild, SX.szs, SX.cellsV, SX.evNew, SX.evStore, SX.spliceL, SX.SV.cells, SX.evConv, SX.evSlice, SX.bnd, SX.evNil, SX.evUn, SX.evPick, SX.pickOpd, SX.popTo, SX.cnd, SX.env0, SX.TD.isAgg, SX.TD.isIface, SX.tails, SX.NotAgg, SX.evLookup, SX.evConvH, SX.evPtrEq, SX.isCells, Go.Value.cells, cfg16]
    refine ⟨by (unfold SX.Ob; first | trivial | omega | ((try simp only [SX.inK]); (try simp [SX.den, SX.IsU8, *]); (try omega))), ?_⟩
    intro a3 w3 hr3' _
    have hr3 := hr2.unbase hr3'
    have hb3 : Below w2.heap.size w2 w3 := by simpa [mutB] using hr3'.keeps.toBelow
    have hS3 := hS2.keep hb3
    have hB3 : ∀ j, j < n → Blk w3 (T j) (cp j) (g j) := fun j hj => by
      obtain ⟨u', hu⟩ := hB2 j hj
      exact ⟨u', SO.rep_same hu (hb3.block _ (SO.rep_lt hu))⟩
    have hsz : w.heap.size ≤ w3.heap.size := hr3.keeps.size
    refine post_call 8 [.v (.pointer (some ⟨c, 0, none⟩)), .v (.int .i64 (lba + k)), .v (.int .i64 ver), .v (.slice (some ⟨T k, 0, none⟩) 16 (cp k))] hr3 (wanted_none rfl) rfl (callable 8 Try.func8) (put_ok P w3 c most hits fails _ hS3 (fun x hx => hP x (by omega)) ⟨lba + k, ver, g k⟩ (by simp only; omega) hv (T k) (cp k) (hB3 k hlt) (hT k hlt).2) ?_
    rintro e w4 ⟨rfl, hk4, hS4⟩
    refine ⟨_, rfl, ?_⟩
    have hB4 : ∀ j, j < n → Blk w4 (T j) (cp j) (g j) := fun j hj => by
      obtain ⟨u', hu⟩ := hB3 j hj
      obtain ⟨M, h1, h2⟩ := hk4
      exact ⟨u', h1.same hu fun hm => (hT j hj).2 (h2 _ hm)⟩
    have h4 := hr3.retP hk4 frP_in 25 (.v (.int .i64 0)) rfl _ (HpAll.cha hk4 hr3.all (by
      intro e he
      simp at he
      subst he
      exact hbP)) (by simp) rfl
    refine seg cfg16_ok mixed PanicFree.body 1000 [false] [] h4.rebase (by first | trivial | exact HpRep.nil | assumption) (by kernel_rfl) fun s_ hs_ => ?_
    simp [SX.vc, SX.stop, SX.contS, SX.contB, SX.contW, SX.contR, SX.contD, SX.sxStep, SX.stepPure, SX.stepNew, SX.stepStore, SX.stepKeep, SX.guardIx, SX.evOp, SX.opd, SX.opds, SX.optOpd, SX.look, SX.putS, SX.gobs, SX.AllP, SX.leave, SX.lookC, SX.lookB, SX.lookT, SX.lookN, SX.findK, SX.evBuiltin, SX.ints, SX.foldI, SX.evBin, SX.evInt, SX.evStr, SX.evEq, SX.arith, SX.evLoad, SX.shapeUp, SX.evFieldAddr, SX.evField, SX.evIndexAddr, SX.evIndex, SX.evFill, SX.evBuild, SX.szs, SX.cellsV, SX.evNew, SX.evStore, SX.spliceL, SX.SV.cells, SX.evConv, SX.evSlice, SX.bnd, SX.evNil, SX.evUn, SX.evPick, SX.pickOpd, SX.popTo, SX.cnd, SX.env0, SX.TD.isAgg, SX.TD.isIface, SX.tails, SX.NotAgg, SX.evLookup, SX.evConvH, SX.evPtrEq, SX.isCells, Go.Value.cells, cfg16]
    refine ⟨by (unfold SX.Ob; first | trivial | omega | ((try simp only [SX.inK]); (try simp [SX.den, SX.IsU8, *]); (try omega))), ?_⟩
    intro a5 w5 hr5' _
    have hr5 := h4.unbase hr5'
    have hb5 : Below w4.heap.size w4 w5 := by simpa [mutB] using hr5'.keeps.toBelow
    exact post_rnd (n - (k + 1)) (by omega) ⟨k + 1, rfl, hlt, hS4.keep hb5, fun j hj => (by
      obtain ⟨u', hu⟩ := hB4 j hj
      exact ⟨u', SO.rep_same hu (hb5.block _ (SO.rep_lt hu))⟩), hr5.re (by simp [envTo, SX.look, den]) hr5.all rfl rfl⟩
  · obtain rfl : k = n := by omega
    refine seg cfg16_ok mixed PanicFree.body 1000 [false] [] hr2.rebase (by first | trivial | exact HpRep.nil | assumption) (by kernel_rfl) fun s_ hs_ => ?_
    simp [SX.vc, SX.stop, SX.contS, SX.contB, SX.contW, SX.contR, SX.contD, SX.sxStep, SX.stepPure, SX.stepNew, SX.stepStore, SX.stepKeep, SX.guardIx, SX.evOp, SX.opd, SX.opds, SX.optOpd, SX.look, SX.putS, SX.gobs, SX.AllP, SX.leave, SX.lookC, SX.lookB, SX.lookT, SX.lookN, SX.findK, SX.evBuiltin, SX.ints, SX.foldI, SX.evBin, SX.evInt, SX.evStr, SX.evEq, SX.arith, SX.evLoad, SX.shapeUp, SX.evFieldAddr, SX.evField, SX.evIndexAddr, SX.evIndex, SX.evFill, SX.evBuild, SX.szs, SX.cellsV, SX.evNew, SX.evStore, SX.spliceL, SX.SV.cells, SX.evConv, SX.evSlice, SX.bnd, SX.evNil, SX.evUn, SX.evPick, SX.pickOpd, SX.popTo, SX.cnd, SX.env0, SX.TD.isAgg, SX.TD.isIface, SX.tails, SX.NotAgg, SX.evLookup, SX.evConvH, SX.evPtrEq, SX.isCells, Go.Value.cells, cfg16]
    refine ⟨by (unfold SX.Ob; first | trivial | omega | ((try simp only [SX.inK]); (try simp [SX.den, SX.IsU8, *]); (try omega))), ?_⟩
    intro a3 w3 hr3' _
    have hr3 := hr2.unbase hr3'
    have hS3 := hS2.keep (by simpa [mutB] using hr3'.keeps.toBelow)
    exact post_retn (end1 hr3 rfl rfl ⟨rfl, frP_cha hr3.keeps, hS3⟩).1

def FillNil (w : World) (m : Nat) (a : Act) (w' : World) : Prop :=
  m = 0 ∧ RepX (frame0 w) ⟨[(14, 0, .v (.int .i64 0)), (13, 0, .v (.int .i64 0))], [], 0, 0, 30, [], [], []⟩ a w'

def FillZero (w : World) (e : Ending) (w' : World) : Prop := e = .returned (.int .i64 0) ∧ Below w.heap.size w w'

set_option maxRecDepth 100000 in
set_option maxHeartbeats 8000000 in
theorem fill_nil (w : World) (c : Nat) (lba ver : Int) :
    Calls Try.prog 16 (denL [.v (.pointer (some ⟨c, 0, none⟩)), .v (.int .i64 lba), .v (.int .i64 ver), .v (.slice none 0 0)]).toArray w (FillZero w) := by
  refine enter (F := frame0 w) Try.func16 rfl [.v (.pointer (some ⟨c, 0, none⟩)), .v (.int .i64 lba), .v (.int .i64 ver), .v (.slice none 0 0)] [] (by simp [Try.f16]) trivial (keeps0 w) fun a hr => ?_
  refine seg cfg16_ok mixed PanicFree.body 1000 [] [] hr (by first | trivial | exact HpRep.nil | assumption) (by kernel_rfl) fun s_ hs_ => ?_
  simp [SX.vc, SX.stop, SX.contS, SX.contB, SX.contW, SX.contR, SX.contD, SX.sxStep, SX.stepPure, SX.stepNew, SX.stepStore, SX.stepKeep, SX.guardIx, SX.evOp, SX.opd, SX.opds, SX.optOpd, SX.look, SX.putS, SX.gobs, SX.AllP, SX.leave, SX.lookC, SX.lookB, SX.lookT, SX.lookN, SX.findK, SX.evBuiltin, SX.ints, SX.foldI, SX.evBin, SX.evInt, SX.evStr, SX.evEq, SX.arith, SX.evLoad, SX.shapeUp, SX.evFieldAddr, SX.evField, SX.evIndexAddr, SX.evIndex, SX.evFill, SX.evBuild, SX.szs, SX.cellsV, SX.evNew, SX.evStore, SX.spliceL, SX.SV.cells, SX.evConv, SX.evSlice, SX.bnd, SX.evNil, SX.evUn, SX.evPick, SX.pickOpd, SX.popTo, SX.cnd, SX.env0, SX.TD.isAgg, SX.TD.isIface, SX.tails, SX.NotAgg, SX.evLookup, SX.evConvH, SX.evPtrEq, SX.isCells, Go.Value.cells, cfg16, Try.f16]
  refine ⟨by (unfold SX.Ob; first | trivial | omega | ((try simp only [SX.inK]); (try simp [SX.den, SX.IsU8, *]); (try omega))), ?_⟩
  intro a1 w1 hr1 _
  refine post_loop (FillNil w) 0 ⟨rfl, hr1.re (by simp [envTo, SX.look]) trivial rfl rfl⟩ ?_
  rintro m a2 w2 ⟨rfl, hr2⟩
  refine seg cfg16_ok mixed PanicFree.body 1000 [false] [] hr2 (by first | trivial | exact HpRep.nil | assumption) (by kernel_rfl) fun s_ hs_ => ?_
  simp [SX.vc, SX.stop, SX.contS, SX.contB, SX.contW, SX.contR, SX.contD, SX.sxStep, SX.stepPure, SX.stepNew, SX.stepStore, SX.stepKeep, SX.guardIx, SX.evOp, SX.opd, SX.opds, SX.optOpd, SX.look, SX.putS, SX.gobs, SX.AllP, SX.leave, SX.lookC, SX.lookB, SX.lookT, SX.lookN, SX.findK, SX.evBuiltin, SX.ints, SX.foldI, SX.evBin, SX.evInt, SX.evStr, SX.evEq, SX.arith, SX.evLoad, SX.shapeUp, SX.evFieldAddr, SX.evField, SX.evIndexAddr, SX.evIndex, SX.evFill, SX.evBuild, SX.szs, SX.cellsV, SX.evNew, SX.evStore, SX.spliceL, SX.SV.cells, SX.evConv, SX.evSlice, SX.bnd, SX.evNil, SX.evUn, SX.evPick, SX.pickOpd, SX.popTo, SX.cnd, SX.env0, SX.TD.isAgg, SX.TD.isIface, SX.tails, SX.NotAgg, SX.evLookup, SX.evConvH, SX.evPtrEq, SX.isCells, Go.Value.cells, cfg16]
  refine ⟨by (unfold SX.Ob; first | trivial | omega | ((try simp only [SX.inK]); (try simp [SX.den, SX.IsU8, *]); (try omega))), ?_⟩
  intro a3 w3 hr3 _
  exact post_retn (end1 hr3 rfl rfl ⟨rfl, hr3.keeps.toBelow⟩).1

/-! ### Filling an empty one -/
def fIt2 (lba ver : Int) (k : Nat) : It := ⟨lba + k, ver, tx k⟩

theorem findL_map2 {lba ver : Int} {K : List Nat} {k : Nat} : findL (lba + k) (K.map (fIt2 lba ver)) = if k ∈ K then some (fIt2 lba ver k) else none := by
  unfold findL
  induction K with
  | nil => rfl
  | cons z r ih =>
    simp only [List.map_cons, List.find?_cons, ih]
    by_cases h : z = k
    · subst h; simp [fIt2]
    · have : ((lba + z : Int) == (lba + k : Int)) = false := by simp; omega
      simp [fIt2, this, Ne.symm h]

theorem othersL_map2 {lba ver : Int} {K : List Nat} {k : Nat} : othersL (lba + k) (K.map (fIt2 lba ver)) = (K.filter fun x => x ≠ k).map (fIt2 lba ver) := by
  unfold othersL
  induction K with
  | nil => rfl
  | cons z r ih =>
    simp only [List.map_cons, List.filter_cons, ih]
    by_cases h : z = k
    · subst h; simp [fIt2]
    · have : ((lba + z : Int) ≠ (lba + k : Int)) := by omega
      simp [fIt2, h, this]

theorem trim_take {α : Type} (m : Nat) (x : α) (l : List α) : (if ((x :: l.take m).length : Int) > m then (x :: l.take m).dropLast else x :: l.take m) = (x :: l).take m := by
  by_cases h : m ≤ l.length
  · rw [if_pos (by simp; omega), List.dropLast_eq_take]
    simp
    rw [Nat.min_eq_left h]
    cases m with
    | zero => rfl
    | succ m => simp [List.take_take]
  · rw [if_neg (by simp; omega), List.take_of_length_le (by omega), List.take_of_length_le (by simp; omega)]

theorem fill_take (m : Nat) (lba ver : Int) (k : Nat) : fillL m [] lba ver (fun j => tx j) k = ((downN k).take m).map (fIt2 lba ver) := by
  induction k with
  | zero => simp [fillL, downN]
  | succ k ih =>
    rw [fillL, ih]
    have h1 : findL (lba + k) (((downN k).take m).map (fIt2 lba ver)) = none := by
      rw [findL_map2, if_neg]
      intro h
      have := downN_mem.1 (List.mem_of_mem_take h)
      omega
    unfold putL
    simp only [h1]
    have h2 := trim_take m k (downN k)
    rw [downN_succ, ← h2]
    unfold trimL
    simp only [List.length_cons, List.length_map]
    split
    · rw [List.map_dropLast]; rfl
    · rfl

theorem take_mem (m n x : Nat) : x ∈ (downN n).take m ↔ x < n ∧ n ≤ x + m := by
  induction n generalizing m with
  | zero => simp [downN]
  | succ n ih =>
    rw [downN_succ]
    cases m with
    | zero => simp
    | succ m => rw [List.take_succ_cons, List.mem_cons, ih]; omega
end Go.Proofs
