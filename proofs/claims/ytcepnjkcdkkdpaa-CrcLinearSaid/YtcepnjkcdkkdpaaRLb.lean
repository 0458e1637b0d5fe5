/- The law CrcLinear, walked. -/
import Derived.Test.YtcepnjkcdkkdpaaRLa
import Derived.Test.YtcepnjkcdkkdpaaSxF
namespace Go.Proofs
set_option linter.unusedVariables false
set_option linter.unusedSimpArgs false
open Go Go.SX Go.RowKit Go.Crc

def eqv (v : Value) : Value → World → Prop := fun x _ => x = v
def lvv (b n : Nat) (g : Nat → BitVec 8) : Value → World → Prop := fun x w => LV b w x 1 (fun _ => n) (fun _ => g)
def b2i (l : Array Bool) (i : Nat) : Int := if l.getD i false then 1 else 0
def u12 (l : Array Bool) : Int := b2i l 5 + b2i l 11 + b2i l 17 + b2i l 24

theorem b2i_ne {l : Array Bool} {i j : Nat} (h : i ≠ j) : b2i (l.setIfInBounds i true) j = b2i l j := by unfold b2i; rw [getD_set_ne false h]
theorem b2i_eq {l : Array Bool} {i : Nat} (h : l.getD i true = false) : b2i (l.setIfInBounds i true) i = b2i l i + 1 := by
  have hlt : i < l.size := by
    rcases Nat.lt_or_ge i l.size with h3 | h3
    · exact h3
    · simp [Array.getElem?_eq_none h3] at h
  have hv : l[i] = false := by simpa [hlt] using h
  simp [b2i, hlt, hv]
theorem b2i_in (l : Array Bool) (i : Nat) : 0 ≤ b2i l i ∧ b2i l i ≤ 1 := by unfold b2i; split <;> omega

def cellsAt (w : World) (b : Nat) : Array Value := match w.heap[b]? with
  | some (.cells c _ _) => c
  | _ => #[]
def tyAt (w : World) (b : Nat) : TypeId := match w.heap[b]? with
  | some (.cells _ u _) => u
  | _ => 0
def fzAt (w : World) (b : Nat) : Nat × Nat := match w.heap[b]? with
  | some (.cells _ _ fz) => fz
  | _ => (0, 0)
def fullRow (w : World) (b : Nat) (j : Nat) : List SV := [.v ((cellsAt w b).getD j undef)]

/-- The whole block of a slice. -/
theorem full_of {w : World} {b o N : Nat} {g : Nat → BitVec 8} {u : TypeId} {fz : Nat × Nat} (h : (SO.arr o N (fun j => [.v (.int .u8 (bv (g j)))]) 1 u fz).rep w b) :
    (SO.arr 0 (cellsAt w b).size (fullRow w b) 1 (tyAt w b) (fzAt w b)).rep w b ∧ o + N ≤ (cellsAt w b).size ∧ ∀ j, j < N → fullRow w b (o + j) = [.v (.int .u8 (bv (g j)))] := by
  obtain ⟨c, hc, h2, h3⟩ := h
  have e1 : cellsAt w b = c := by simp [cellsAt, hc]
  have e2 : tyAt w b = u := by simp [tyAt, hc]
  have e3 : fzAt w b = fz := by simp [fzAt, hc]
  rw [e1, e2, e3]
  refine ⟨⟨c, hc, by omega, fun j hj => ⟨rfl, fun s hs => ?_⟩⟩, by omega, fun j hj => ?_⟩
  · obtain rfl : s = 0 := by omega
    have hj' : 0 + (j * 1 + 0) < c.size := by omega
    simp only [fullRow, e1]
    rw [Array.getElem?_eq_getElem hj']
    simp only [denL, den, Array.getD]
    simp [show j < c.size by omega]
  · have h4 := (h3 j hj).2 0 (by omega)
    simp only [fullRow, e1]
    simp [denL, den] at h4
    rw [Array.getD_eq_getD_getElem?, show o + j = o + (j * 1 + 0) by omega]
    simp [h4]

theorem want47 {all : Array Oper} {a : Act} {o : Oper} {j tj : Nat} (hg : o.guard = some (j, true)) (hj : (all[j]?).bind (·.dst) = some tj) (ht : a.tmps[tj]? = some (.bool true)) : Region.wanted o (yielded all a.tmps) = true :=
  (wanted_eq all a o (C := true) (B := true) hg hj ht).trans rfl

theorem slotOf {F : Fr} {st : St} {a : Act} {w : World} (h : RepX F st a w) {d : Nat} {x : SV} (hl : SX.look st.env d = some (0, x)) : a.tmps[d]? = some (den x) := by
  have := (h.env.2.2.1 d 0 x hl).2
  simpa [cnd] using this

theorem BV.prefix {b : Nat} {w : World} {a : Option Addr} {len cap n : Nat} {g : Nat → BitVec 8} (h : BV b w (.slice a len cap) len g) (hn : n ≤ len) : BV b w (.slice a n cap) n g := by
  rcases Nat.eq_zero_or_pos n with rfl | h0
  · exact .inl ⟨rfl, _, _, rfl⟩
  · rcases h with ⟨e, _⟩ | ⟨_, bb, o0, N, c, u, fz, h1, h2, h3, h4⟩
    · omega
    · simp only [Value.slice.injEq] at h2
      obtain ⟨rfl, _, rfl⟩ := h2
      exact .inr ⟨h0, bb, o0, N, _, u, fz, h1, rfl, by omega, h4⟩

theorem lvv_keep {b n : Nat} {g : Nat → BitVec 8} {w w' : World} {x : Value} (hk : KeepsTo w [b] w') (h : lvv b n g x w) : lvv b n g x w' := LV.keep h hk

theorem bvAt {w w' : World} {v : Value} {n : Nat} {g : Nat → BitVec 8} (h : ∀ b, w.heap.size ≤ b → BV b w v n g) (hk : Keeps (frame0 w) w') : ∀ b, w.heap.size ≤ b → BV b w' v n g := fun b hb => (h b hb).keep (KeepsTo.weak (M := []) hk (by simp))

theorem LV.slice {b : Nat} {w : World} {v : Value} {m : Nat} {ns : Nat → Nat} {gs : Nat → Nat → BitVec 8} (h : LV b w v m ns gs) : ∃ a c, v = .slice a m c := by
  rcases h with ⟨rfl, a, c, e⟩ | ⟨_, lb, o0, N, c, _, _, _, _, e, _⟩
  · exact ⟨a, c, e⟩
  · exact ⟨_, _, e⟩

theorem keepsDrew' (w : World) (b : Nat) : KeepsTo w [b] { w with drawn := w.drawn + 1 } := ⟨Nat.le_refl _, rfl, rfl, rfl, Nat.le_refl _, fun _ _ _ => rfl⟩

theorem lin_law (g h k : Nat → BitVec 8) (n : Nat) : ~~~ go ones (fun j => g j ^^^ h j ^^^ k j) n = (~~~ go ones g n) ^^^ (~~~ go ones h n) ^^^ (~~~ go ones k n) := by
  have key : ∀ n, go ones (fun j => g j ^^^ h j ^^^ k j) n = go ones g n ^^^ go ones h n ^^^ go ones k n := by
    intro n
    induction n with
    | zero =>
      show ones = ones ^^^ ones ^^^ ones
      rw [BitVec.xor_self, BitVec.zero_xor]
    | succ n ih =>
      simp only [go, step_eq]
      rw [ih, ← fN_xor, ← fN_xor]
      congr 1
      have hz : zx (g n ^^^ h n ^^^ k n) = zx (g n) ^^^ zx (h n) ^^^ zx (k n) := by simp [zx]
      rw [hz, x4 (go ones g n ^^^ go ones h n) (go ones k n), x4 (go ones g n) (go ones h n)]
  have e : ∀ x : BitVec 32, ~~~ x = ones ^^^ x := fun x => by unfold ones; rw [BitVec.allOnes_xor]
  rw [key, e, e, e, e]
  generalize go ones g n = a
  generalize go ones h n = b
  generalize go ones k n = c
  have e2 : (ones ^^^ a) ^^^ (ones ^^^ b) = a ^^^ b := by rw [x4, BitVec.xor_self, BitVec.zero_xor]
  rw [e2, ← BitVec.xor_assoc (a ^^^ b), BitVec.xor_comm (a ^^^ b) ones]
  simp only [BitVec.xor_assoc]

def T12 (b n : Nat) (vx va vb vc van vbn vcn : Value) (gx ga gb gc : Nat → BitVec 8) (X A B C : BitVec 32) : List (Nat × (Value → World → Prop)) :=
  [(46, eqv (.bool true)), (47, eqv (.bool true)), (48, eqv (.pointer (some ⟨b, 0, none⟩))), (49, eqv vx), (50, lvv b n gx), (51, eqv (.int .u32 (rv X))),
   (52, eqv (.pointer (some ⟨b, 0, none⟩))), (53, eqv va), (54, eqv (.int .i64 n)), (55, eqv van), (56, lvv b n ga), (57, eqv (.int .u32 (rv A))),
   (58, eqv (.pointer (some ⟨b, 0, none⟩))), (59, eqv vb), (60, eqv (.int .i64 n)), (61, eqv vbn), (62, lvv b n gb), (63, eqv (.int .u32 (rv B))),
   (64, eqv (.int .u32 (rv (A ^^^ B)))), (65, eqv (.pointer (some ⟨b, 0, none⟩))), (66, eqv vc), (67, eqv (.int .i64 n)), (68, eqv vcn), (69, lvv b n gc), (70, eqv (.int .u32 (rv C))),
   (71, eqv (.int .u32 (rv (A ^^^ B ^^^ C)))), (72, eqv (.bool true)), (73, eqv (.bool true)), (6, eqv (.bool true))]
def F12 (b n : Nat) (vx va vb vc : Value) : List (Nat × Value) := [(7, .bool true), (11, .pointer (some ⟨b, 0, none⟩)), (9, vx), (0, va), (1, vb), (2, vc), (8, .int .i64 n)]

theorem T12_mono {b n : Nat} {vx va vb vc van vbn vcn : Value} {gx ga gb gc : Nat → BitVec 8} {X A B C : BitVec 32} : ∀ t ∈ T12 b n vx va vb vc van vbn vcn gx ga gb gc X A B C, ∀ (w w' : World) (x : Value), KeepsTo w [b] w' → t.2 x w → t.2 x w' := by
  intro t ht w w' x hk h
  simp only [T12, List.mem_cons, List.not_mem_nil, or_false] at ht
  rcases ht with rfl | rfl | rfl | rfl | rfl | rfl | rfl | rfl | rfl | rfl | rfl | rfl | rfl | rfl | rfl | rfl | rfl | rfl | rfl | rfl | rfl | rfl | rfl | rfl | rfl | rfl | rfl | rfl | rfl
  all_goals first | exact h | exact lvv_keep hk h

def LinX (n0 : Nat) (gx : Nat → BitVec 8) (k : Nat) (x : SV) (H : Hp) : Prop :=
  (k = 0 ∧ x = .v (.slice none 0 0) ∧ H = []) ∨
  ∃ b cap N row u, 0 < k ∧ n0 ≤ b ∧ x = .sl 0 b 0 0 k cap 1 ∧ H = [(b, true, .arr 0 N row 1 u (0, 0))] ∧ k ≤ cap ∧ cap ≤ N ∧ ∀ j, j < k → row j = [.v (.int .u8 (bv (gx j)))]

def LinLoop (w : World) (n : Nat) (va vb vc : Value) (gx : Nat → BitVec 8) (d : Nat) (a : Act) (w' : World) : Prop :=
  ∃ (k : Nat) (x : SV) (H : Hp), d = n - k ∧ k ≤ n ∧ LinX w.heap.size gx k x H ∧
    RepX (frame0 w) ⟨[(24, 0, .v (.int .i64 k)), (23, 0, .v (.int .i64 n)), (9, 0, x), (8, 0, .v (.int .i64 n)), (7, 0, .v (.bool true)), (2, 0, .v vc), (1, 0, .v vb), (0, 0, .v va)], H, 0, 0, 74, [], [], []⟩ a w'

theorem add_zero' (x : Addr) (h : x.spot = none) : x.add 0 = x := by
  rw [addr_add x 0 h, Nat.add_zero]
  obtain ⟨b, o, s⟩ := x
  simp only at h
  rw [h]

theorem run_slice_to {w : World} {a : Option Addr} {len cap n : Nat} (h : n ≤ cap) (ha : cap ≠ 0 → ∀ x, a = some x → x.spot = none) : (Instr.sliceAt 22 (.slice a len cap) none (some (.int .i64 n)) none).run Try.prog w = .ok (.slice a n cap) w := by
  have hs := run_sizeOf' (P := Try.prog) tok5 w
  have hmap : cap ≠ 0 → a.map (fun x => x.add 0) = a := by
    intro hc
    cases a with
    | none => rfl
    | some x => simp [add_zero' x (ha hc x rfl)]
  have hb : (Instr.sliceBound (.int .i64 n) cap .sliceAcap).run Try.prog w = .ok n w := by simp [Instr.sliceBound, asIntOf, h]
  simp [Instr.sliceAt, Instr.slice, run_underlying Try.underlying22, Instr.sliceBounds, hs, hb]
  intro hc
  exact hmap hc

theorem exec_slice_to {st : St} {o : Oper} {x y : Operand} {ad : Option Addr} {len cap n : Nat} {a : Act} {w : World} (he : EnvRep st a) (hop : o.op = .slice 22 x none (some y) none) (hx : opd st 0 x = some (.v (.slice ad len cap))) (hy : opd st 0 y = some (.v (.int .i64 n)))
    (h : n ≤ cap) (ha : cap ≠ 0 → ∀ x, ad = some x → x.spot = none) : (execOp a.eval o).run Try.prog w = .ok (.value (.slice ad n cap)) w := by
  have := run_slice_to (w := w) (a := ad) (len := len) h ha
  simp [execOp, hop, opd_sound he (c := 0) rfl hx, opd_sound he (c := 0) rfl hy, den, this]

set_option maxRecDepth 100000 in
set_option maxHeartbeats 40000000 in
theorem lin_ok (w : World) (aa ab ac : Option Addr) (la lb lc ca cb cc : Nat) (ga gb gc : Nat → BitVec 8) (hA : ∀ b, w.heap.size ≤ b → BV b w (.slice aa la ca) la ga) (hB : ∀ b, w.heap.size ≤ b → BV b w (.slice ab lb cb) lb gb) (hC : ∀ b, w.heap.size ≤ b → BV b w (.slice ac lc cc) lc gc)
    (hla : la ≤ ca) (hlb : lb ≤ cb) (hlc : lc ≤ cc) (hsa : ca ≠ 0 → ∀ x, aa = some x → x.spot = none) (hsb : cb ≠ 0 → ∀ x, ab = some x → x.spot = none) (hsc : cc ≠ 0 → ∀ x, ac = some x → x.spot = none) (hba : la ≤ 140737488351232) :
    Calls Try.prog 4 (denL [.v (.slice aa la ca), .v (.slice ab lb cb), .v (.slice ac lc cc)]).toArray w (LivePost w) := by
  refine enter (F := frame0 w) Try.func4 rfl [.v (.slice aa la ca), .v (.slice ab lb cb), .v (.slice ac lc cc)] [] (by simp [Try.f4]) trivial (keeps0 w) fun a hr => ?_
  refine seg cfg4_ok mixed PanicFree.body 1000 [] [] hr (by first | trivial | exact HpRep.nil | assumption) (by kernel_rfl) fun s_ hs_ => ?_
  simp (maxSteps := 10000000) [SX.vc, SX.stop, SX.contS, SX.contB, SX.contW, SX.contR, SX.contD, SX.sxStep, SX.stepPure, SX.stepNew, SX.stepStore, SX.stepKeep, SX.guardIx, SX.evOp, SX.opd, SX.opds, SX.optOpd, SX.look, SX.putS, SX.gobs, SX.AllP, SX.leave, SX.lookC, SX.lookB, SX.lookT, SX.lookN, SX.findK, SX.evBuiltin, SX.ints, SX.foldI, SX.evBin, SX.evInt, SX.evStr, SX.evEq, SX.arith, SX.evLoad, SX.shapeUp, SX.evFieldAddr, SX.evField, SX.evIndexAddr, SX.evIndex, SX.evFill, SX.evBuild, SX.szs, SX.cellsV, SX.evNew, SX.evStore, SX.spliceL, SX.SV.cells, SX.evConv, SX.evSlice, SX.bnd, SX.evNil, SX.evUn, SX.evPick, SX.pickOpd, SX.popTo, SX.cnd, SX.env0, SX.TD.isAgg, SX.TD.isIface, SX.tails, SX.NotAgg, SX.evLookup, SX.evConvH, SX.evPtrEq, SX.isCells, Go.Value.cells, cfg4, Try.f4]
  refine ⟨by (unfold SX.Ob; first | trivial | omega | ((try simp only [SX.inK]); (try simp [SX.den, SX.IsU8, *]); (try omega))), ?_⟩
  intro a1 w1 hr1 _
  refine post_call 8 [] hr1 (wanted_none rfl) rfl (callable 8 Try.func8) (live_ok w1) ?_
  rintro e w2 ⟨rfl, hb2⟩
  refine ⟨_, rfl, ?_⟩
  have h2 := hr1.ret hb2 12 (.v (.bool true)) rfl [] trivial (by simp) rfl
  obtain ⟨n, hn⟩ : ∃ n, n = min (min la lb) lc := ⟨_, rfl⟩
  have hn1 : n ≤ la := by omega
  have hn2 : n ≤ lb := by omega
  have hn3 : n ≤ lc := by omega
  have hmin' : (if (lc : Int) < (if lb < la then (lb : Int) else la) then (lc : Int) else (if lb < la then (lb : Int) else la)) = n := by
    split <;> split <;> omega
  clear hn
  by_cases hbig : (n : Int) > 5000
  · refine seg cfg4_ok mixed PanicFree.body 1000 [true] [] h2 (by first | trivial | exact HpRep.nil | assumption) (by kernel_rfl) fun s_ hs_ => ?_
    simp (maxSteps := 10000000) [SX.vc, SX.stop, SX.contS, SX.contB, SX.contW, SX.contR, SX.contD, SX.sxStep, SX.stepPure, SX.stepNew, SX.stepStore, SX.stepKeep, SX.guardIx, SX.evOp, SX.opd, SX.opds, SX.optOpd, SX.look, SX.putS, SX.gobs, SX.AllP, SX.leave, SX.lookC, SX.lookB, SX.lookT, SX.lookN, SX.findK, SX.evBuiltin, SX.ints, SX.foldI, SX.evBin, SX.evInt, SX.evStr, SX.evEq, SX.arith, SX.evLoad, SX.shapeUp, SX.evFieldAddr, SX.evField, SX.evIndexAddr, SX.evIndex, SX.evFill, SX.evBuild, SX.szs, SX.cellsV, SX.evNew, SX.evStore, SX.spliceL, SX.SV.cells, SX.evConv, SX.evSlice, SX.bnd, SX.evNil, SX.evUn, SX.evPick, SX.pickOpd, SX.popTo, SX.cnd, SX.env0, SX.TD.isAgg, SX.TD.isIface, SX.tails, SX.NotAgg, SX.evLookup, SX.evConvH, SX.evPtrEq, SX.isCells, Go.Value.cells, cfg4, hmin', hbig]
    refine ⟨by (unfold SX.Ob; first | trivial | omega | ((try simp only [SX.inK]); (try simp [SX.den, SX.IsU8, *]); (try omega))), ?_⟩
    intro a3 w3 hr3 _
    exact post_retn (end1 hr3 rfl rfl ⟨rfl, hr3.keeps.toBelow⟩).1
  refine seg cfg4_ok mixed PanicFree.body 1000 [false] [] h2 (by first | trivial | exact HpRep.nil | assumption) (by kernel_rfl) fun s_ hs_ => ?_
  simp (maxSteps := 10000000) [SX.vc, SX.stop, SX.contS, SX.contB, SX.contW, SX.contR, SX.contD, SX.sxStep, SX.stepPure, SX.stepNew, SX.stepStore, SX.stepKeep, SX.guardIx, SX.evOp, SX.opd, SX.opds, SX.optOpd, SX.look, SX.putS, SX.gobs, SX.AllP, SX.leave, SX.lookC, SX.lookB, SX.lookT, SX.lookN, SX.findK, SX.evBuiltin, SX.ints, SX.foldI, SX.evBin, SX.evInt, SX.evStr, SX.evEq, SX.arith, SX.evLoad, SX.shapeUp, SX.evFieldAddr, SX.evField, SX.evIndexAddr, SX.evIndex, SX.evFill, SX.evBuild, SX.szs, SX.cellsV, SX.evNew, SX.evStore, SX.spliceL, SX.SV.cells, SX.evConv, SX.evSlice, SX.bnd, SX.evNil, SX.evUn, SX.evPick, SX.pickOpd, SX.popTo, SX.cnd, SX.env0, SX.TD.isAgg, SX.TD.isIface, SX.tails, SX.NotAgg, SX.evLookup, SX.evConvH, SX.evPtrEq, SX.isCells, Go.Value.cells, cfg4, hmin', hbig]
  refine ⟨by (unfold SX.Ob; first | trivial | omega | ((try simp only [SX.inK]); (try simp [SX.den, SX.IsU8, *]); (try omega))), ?_⟩
  intro a3 w3 hr3 _
  have hn5 : n ≤ 5000 := by omega
  obtain ⟨gx, hgx⟩ : ∃ gx : Nat → BitVec 8, gx = fun j => ga j ^^^ gb j ^^^ gc j := ⟨_, rfl⟩
  refine post_loop (LinLoop w n (.slice aa la ca) (.slice ab lb cb) (.slice ac lc cc) gx) n ⟨0, .v (.slice none 0 0), [], rfl, by omega, .inl ⟨rfl, rfl, rfl⟩, hr3.re (by simp [envTo, SX.look]) trivial rfl rfl⟩ ?_
  clear hr hr1 h2 hr3
  rintro d a4 w4 ⟨k, x, H, rfl, hk, hx, hr4⟩
  by_cases hlt : k < n
  · rcases hA w.heap.size (Nat.le_refl _) with ⟨e, _⟩ | ⟨_, ba, oa, Na, ca', ua, fza, _, ea, na1, ra⟩
    · omega
    rcases hB w.heap.size (Nat.le_refl _) with ⟨e, _⟩ | ⟨_, bb, ob, Nb, cb', ub, fzb, _, eb, nb1, rb⟩
    · omega
    rcases hC w.heap.size (Nat.le_refl _) with ⟨e, _⟩ | ⟨_, bc, oc, Nc, cc', uc, fzc, _, ec, nc1, rc⟩
    · omega
    simp only [Value.slice.injEq, true_and] at ea eb ec
    obtain ⟨rfl, rfl⟩ := ea
    obtain ⟨rfl, rfl⟩ := eb
    obtain ⟨rfl, rfl⟩ := ec
    obtain ⟨fa, za, ka⟩ := full_of ra
    obtain ⟨fb, zb, kb⟩ := full_of rb
    obtain ⟨fc, zc, kc⟩ := full_of rc
    have hka := ka k (by omega)
    have hkb := kb k (by omega)
    have hkc := kc k (by omega)
    have ja : oa + k < (cellsAt w ba).size := by omega
    have jb : ob + k < (cellsAt w bb).size := by omega
    have jc : oc + k < (cellsAt w bc).size := by omega
    have lta := SO.rep_lt ra
    have ltb := SO.rep_lt rb
    have ltc := SO.rep_lt rc
    have f4a := SO.rep_same fa (hr4.keeps.block _ lta (by simp [frame0]))
    have f4b := SO.rep_same fb (hr4.keeps.block _ ltb (by simp [frame0]))
    have f4c := SO.rep_same fc (hr4.keeps.block _ ltc (by simp [frame0]))
    have hgk : gx k = ga k ^^^ gb k ^^^ gc k := by rw [hgx]
    clear hgx ka kb kc ra rb rc fa fb fc
    by_cases q1 : ba = bb
    · subst q1
      by_cases q2 : ba = bc
      · subst q2
        rcases hx with ⟨hkz, rfl, rfl⟩ | ⟨b', cap, N, row, u, hk0, hB', rfl, rfl, hd1, hd2, hrow⟩
        · have hr6 : RepX (frame0 w) ⟨[(24, 0, .v (.int .i64 k)), (23, 0, .v (.int .i64 n)), (9, 0, .v (.slice none 0 0)), (8, 0, .v (.int .i64 n)), (7, 0, .v (.bool true)), (2, 0, .sl 0 ba 0 oc lc cc 1), (1, 0, .sl 0 ba 0 ob lb cb 1), (0, 0, .sl 0 ba 0 oa la ca 1)], [(ba, false, .arr 0 (cellsAt w ba).size (fullRow w ba) 1 (tyAt w ba) (fzAt w ba))], 0, 0, 74, [], [], []⟩ a4 w4 :=
            hr4.re (by simp [envTo, SX.look, den]) ⟨⟨f4a, by simp, by simp⟩, trivial⟩ rfl rfl
          refine seg cfg4_ok mixed PanicFree.body 1000 [true] [] hr6 (by first | trivial | exact HpRep.nil | assumption) (by kernel_rfl) fun s_ hs_ => ?_
          simp (maxSteps := 10000000) [SX.vc, SX.stop, SX.contS, SX.contB, SX.contW, SX.contR, SX.contD, SX.sxStep, SX.stepPure, SX.stepNew, SX.stepStore, SX.stepKeep, SX.guardIx, SX.evOp, SX.opd, SX.opds, SX.optOpd, SX.look, SX.putS, SX.gobs, SX.AllP, SX.leave, SX.lookC, SX.lookB, SX.lookT, SX.lookN, SX.findK, SX.evBuiltin, SX.ints, SX.foldI, SX.evBin, SX.evInt, SX.evStr, SX.evEq, SX.arith, SX.evLoad, SX.shapeUp, SX.evFieldAddr, SX.evField, SX.evIndexAddr, SX.evIndex, SX.evFill, SX.evBuild, SX.szs, SX.cellsV, SX.evNew, SX.evStore, SX.spliceL, SX.SV.cells, SX.evConv, SX.evSlice, SX.bnd, SX.evNil, SX.evUn, SX.evPick, SX.pickOpd, SX.popTo, SX.cnd, SX.env0, SX.TD.isAgg, SX.TD.isIface, SX.tails, SX.NotAgg, SX.evLookup, SX.evConvH, SX.evPtrEq, SX.isCells, Go.Value.cells, cfg4, hka, hkb, hkc, vx8, ja, jb, jc]
          refine ⟨by (unfold SX.Ob; first | trivial | omega | ((try simp only [SX.inK]); (try simp [SX.den, SX.IsU8, *]); (try omega))), ?_⟩
          intro a7 w7 hr7 _
          refine post_appendD cfg4_ok hr7 rfl rfl rfl rfl (by simp) rfl rfl (t := 22) (t' := 22) rfl rfl rfl rfl rfl rfl (by decide) (j := 1) rfl rfl (base2 := 0) (by omega) (.inl ⟨rfl, rfl, rfl, rfl⟩) (b := 0) (N := 0) (row := fun _ => []) (u := 0) (by omega) (by show (2 * (0 + 1) + 192) * 1 ≤ 281474976710656; omega) (fun j hj y hy => ?_) ?_
          · obtain rfl : j = 0 := by omega
            simp at hy; subst hy; trivial
          intro a8 w8 b2 cap2 N2 row2 u2 hc1 hc2 hrow0 hrow1 hb2 hr8
          refine seg cfg4_ok mixed PanicFree.body 1000 [] [] hr8 (by first | trivial | exact HpRep.nil | assumption) (by kernel_rfl) fun s_ hs_ => ?_
          simp (maxSteps := 10000000) [SX.vc, SX.stop, SX.contS, SX.contB, SX.contW, SX.contR, SX.contD, SX.sxStep, SX.stepPure, SX.stepNew, SX.stepStore, SX.stepKeep, SX.guardIx, SX.evOp, SX.opd, SX.opds, SX.optOpd, SX.look, SX.putS, SX.gobs, SX.AllP, SX.leave, SX.lookC, SX.lookB, SX.lookT, SX.lookN, SX.findK, SX.evBuiltin, SX.ints, SX.foldI, SX.evBin, SX.evInt, SX.evStr, SX.evEq, SX.arith, SX.evLoad, SX.shapeUp, SX.evFieldAddr, SX.evField, SX.evIndexAddr, SX.evIndex, SX.evFill, SX.evBuild, SX.szs, SX.cellsV, SX.evNew, SX.evStore, SX.spliceL, SX.SV.cells, SX.evConv, SX.evSlice, SX.bnd, SX.evNil, SX.evUn, SX.evPick, SX.pickOpd, SX.popTo, SX.cnd, SX.env0, SX.TD.isAgg, SX.TD.isIface, SX.tails, SX.NotAgg, SX.evLookup, SX.evConvH, SX.evPtrEq, SX.isCells, Go.Value.cells, cfg4]
          refine ⟨by (unfold SX.Ob; first | trivial | omega | ((try simp only [SX.inK]); (try simp [SX.den, SX.IsU8, *]); (try omega))), ?_⟩
          intro a9 w9 hr9 _
          have h9 := hr9.all
          have h0 := hrow1 0 (by omega)
          have h10 : w.heap.size ≤ w7.heap.size := hr7.keeps.size
          have hbb2 : w.heap.size ≤ b2 := by
            rcases hb2 with ⟨h11, _⟩ | rfl
            · cases h11
            · exact h10
          subst hkz
          refine post_rnd (n - (0 + 1)) (by omega) ⟨0 + 1, .sl 0 b2 0 0 (0 + 1) cap2 1, [(b2, true, .arr 0 N2 row2 1 u2 (0, 0))], rfl, hlt, .inr ⟨b2, cap2, N2, row2, u2, by omega, hbb2, rfl, rfl, by omega, hc2, fun j hj => ?_⟩, hr9.re (by simp [envTo, SX.look, den]) ⟨⟨h9.2.2.1.1, h9.2.2.1.2.1, by simp⟩, trivial⟩ rfl rfl⟩
          obtain rfl : j = 0 := by omega
          simp at h0
          rw [h0, hgk]
        · have hX := hr4.all
          have hr6 : RepX (frame0 w) ⟨[(24, 0, .v (.int .i64 k)), (23, 0, .v (.int .i64 n)), (9, 0, .sl 1 b' 0 0 k cap 1), (8, 0, .v (.int .i64 n)), (7, 0, .v (.bool true)), (2, 0, .sl 0 ba 0 oc lc cc 1), (1, 0, .sl 0 ba 0 ob lb cb 1), (0, 0, .sl 0 ba 0 oa la ca 1)], [(ba, false, .arr 0 (cellsAt w ba).size (fullRow w ba) 1 (tyAt w ba) (fzAt w ba)), (b', true, .arr 0 N row 1 u (0, 0))], 0, 0, 74, [], [], []⟩ a4 w4 :=
            hr4.re (by simp [envTo, SX.look, den]) ⟨⟨f4a, by simp, (by intro e9 he9; simp at he9; subst he9 <;> simp <;> omega)⟩, ⟨hX.1.1, hX.1.2.1, by simp⟩, trivial⟩ rfl rfl
          refine seg cfg4_ok mixed PanicFree.body 1000 [true] [] hr6 (by first | trivial | exact HpRep.nil | assumption) (by kernel_rfl) fun s_ hs_ => ?_
          simp (maxSteps := 10000000) [SX.vc, SX.stop, SX.contS, SX.contB, SX.contW, SX.contR, SX.contD, SX.sxStep, SX.stepPure, SX.stepNew, SX.stepStore, SX.stepKeep, SX.guardIx, SX.evOp, SX.opd, SX.opds, SX.optOpd, SX.look, SX.putS, SX.gobs, SX.AllP, SX.leave, SX.lookC, SX.lookB, SX.lookT, SX.lookN, SX.findK, SX.evBuiltin, SX.ints, SX.foldI, SX.evBin, SX.evInt, SX.evStr, SX.evEq, SX.arith, SX.evLoad, SX.shapeUp, SX.evFieldAddr, SX.evField, SX.evIndexAddr, SX.evIndex, SX.evFill, SX.evBuild, SX.szs, SX.cellsV, SX.evNew, SX.evStore, SX.spliceL, SX.SV.cells, SX.evConv, SX.evSlice, SX.bnd, SX.evNil, SX.evUn, SX.evPick, SX.pickOpd, SX.popTo, SX.cnd, SX.env0, SX.TD.isAgg, SX.TD.isIface, SX.tails, SX.NotAgg, SX.evLookup, SX.evConvH, SX.evPtrEq, SX.isCells, Go.Value.cells, cfg4, hka, hkb, hkc, vx8, ja, jb, jc]
          refine ⟨by (unfold SX.Ob; first | trivial | omega | ((try simp only [SX.inK]); (try simp [SX.den, SX.IsU8, *]); (try omega))), ?_⟩
          intro a7 w7 hr7 _
          refine post_appendD cfg4_ok hr7 rfl rfl rfl rfl (by simp) rfl rfl (t := 22) (t' := 22) rfl rfl rfl rfl rfl rfl (by decide) (j := 2) rfl rfl (base2 := 0) (by omega) (.inr ⟨rfl, rfl, hd2, hd1⟩) (by omega) (by show (2 * (k + 1) + 192) * 1 ≤ 281474976710656; omega) (fun j hj y hy => ?_) ?_
          · obtain rfl : j = 0 := by omega
            simp at hy; subst hy; trivial
          intro a8 w8 b2 cap2 N2 row2 u2 hc1 hc2 hrow0 hrow1 hb2 hr8
          refine seg cfg4_ok mixed PanicFree.body 1000 [] [] hr8 (by first | trivial | exact HpRep.nil | assumption) (by kernel_rfl) fun s_ hs_ => ?_
          simp (maxSteps := 10000000) [SX.vc, SX.stop, SX.contS, SX.contB, SX.contW, SX.contR, SX.contD, SX.sxStep, SX.stepPure, SX.stepNew, SX.stepStore, SX.stepKeep, SX.guardIx, SX.evOp, SX.opd, SX.opds, SX.optOpd, SX.look, SX.putS, SX.gobs, SX.AllP, SX.leave, SX.lookC, SX.lookB, SX.lookT, SX.lookN, SX.findK, SX.evBuiltin, SX.ints, SX.foldI, SX.evBin, SX.evInt, SX.evStr, SX.evEq, SX.arith, SX.evLoad, SX.shapeUp, SX.evFieldAddr, SX.evField, SX.evIndexAddr, SX.evIndex, SX.evFill, SX.evBuild, SX.szs, SX.cellsV, SX.evNew, SX.evStore, SX.spliceL, SX.SV.cells, SX.evConv, SX.evSlice, SX.bnd, SX.evNil, SX.evUn, SX.evPick, SX.pickOpd, SX.popTo, SX.cnd, SX.env0, SX.TD.isAgg, SX.TD.isIface, SX.tails, SX.NotAgg, SX.evLookup, SX.evConvH, SX.evPtrEq, SX.isCells, Go.Value.cells, cfg4]
          refine ⟨by (unfold SX.Ob; first | trivial | omega | ((try simp only [SX.inK]); (try simp [SX.den, SX.IsU8, *]); (try omega))), ?_⟩
          intro a9 w9 hr9 _
          have h9 := hr9.all
          have h0 := hrow1 0 (by omega)
          have h10 : w.heap.size ≤ w7.heap.size := hr7.keeps.size
          have hbb2 : w.heap.size ≤ b2 := by
            rcases hb2 with ⟨_, rfl⟩ | rfl
            · exact hB'
            · exact h10
          refine post_rnd (n - (k + 1)) (by omega) ⟨k + 1, .sl 0 b2 0 0 (k + 1) cap2 1, [(b2, true, .arr 0 N2 row2 1 u2 (0, 0))], rfl, hlt, .inr ⟨b2, cap2, N2, row2, u2, by omega, hbb2, rfl, rfl, by omega, hc2, fun j hj => ?_⟩, hr9.re (by simp [envTo, SX.look, den]) ⟨⟨h9.2.1.1, h9.2.1.2.1, by simp⟩, trivial⟩ rfl rfl⟩
          by_cases hjk : j < k
          · rw [hrow0 j hjk]; exact hrow j hjk
          · obtain rfl : j = k := by omega
            simp at h0
            rw [h0, hgk]
      · rcases hx with ⟨hkz, rfl, rfl⟩ | ⟨b', cap, N, row, u, hk0, hB', rfl, rfl, hd1, hd2, hrow⟩
        · have hr6 : RepX (frame0 w) ⟨[(24, 0, .v (.int .i64 k)), (23, 0, .v (.int .i64 n)), (9, 0, .v (.slice none 0 0)), (8, 0, .v (.int .i64 n)), (7, 0, .v (.bool true)), (2, 0, .sl 1 bc 0 oc lc cc 1), (1, 0, .sl 0 ba 0 ob lb cb 1), (0, 0, .sl 0 ba 0 oa la ca 1)], [(ba, false, .arr 0 (cellsAt w ba).size (fullRow w ba) 1 (tyAt w ba) (fzAt w ba)), (bc, false, .arr 0 (cellsAt w bc).size (fullRow w bc) 1 (tyAt w bc) (fzAt w bc))], 0, 0, 74, [], [], []⟩ a4 w4 :=
            hr4.re (by simp [envTo, SX.look, den]) ⟨⟨f4a, by simp, (by intro e9 he9; simp at he9; subst he9 <;> simp <;> omega)⟩, ⟨f4c, by simp, by simp⟩, trivial⟩ rfl rfl
          refine seg cfg4_ok mixed PanicFree.body 1000 [true] [] hr6 (by first | trivial | exact HpRep.nil | assumption) (by kernel_rfl) fun s_ hs_ => ?_
          simp (maxSteps := 10000000) [SX.vc, SX.stop, SX.contS, SX.contB, SX.contW, SX.contR, SX.contD, SX.sxStep, SX.stepPure, SX.stepNew, SX.stepStore, SX.stepKeep, SX.guardIx, SX.evOp, SX.opd, SX.opds, SX.optOpd, SX.look, SX.putS, SX.gobs, SX.AllP, SX.leave, SX.lookC, SX.lookB, SX.lookT, SX.lookN, SX.findK, SX.evBuiltin, SX.ints, SX.foldI, SX.evBin, SX.evInt, SX.evStr, SX.evEq, SX.arith, SX.evLoad, SX.shapeUp, SX.evFieldAddr, SX.evField, SX.evIndexAddr, SX.evIndex, SX.evFill, SX.evBuild, SX.szs, SX.cellsV, SX.evNew, SX.evStore, SX.spliceL, SX.SV.cells, SX.evConv, SX.evSlice, SX.bnd, SX.evNil, SX.evUn, SX.evPick, SX.pickOpd, SX.popTo, SX.cnd, SX.env0, SX.TD.isAgg, SX.TD.isIface, SX.tails, SX.NotAgg, SX.evLookup, SX.evConvH, SX.evPtrEq, SX.isCells, Go.Value.cells, cfg4, hka, hkb, hkc, vx8, ja, jb, jc]
          refine ⟨by (unfold SX.Ob; first | trivial | omega | ((try simp only [SX.inK]); (try simp [SX.den, SX.IsU8, *]); (try omega))), ?_⟩
          intro a7 w7 hr7 _
          refine post_appendD cfg4_ok hr7 rfl rfl rfl rfl (by simp) rfl rfl (t := 22) (t' := 22) rfl rfl rfl rfl rfl rfl (by decide) (j := 2) rfl rfl (base2 := 0) (by omega) (.inl ⟨rfl, rfl, rfl, rfl⟩) (b := 0) (N := 0) (row := fun _ => []) (u := 0) (by omega) (by show (2 * (0 + 1) + 192) * 1 ≤ 281474976710656; omega) (fun j hj y hy => ?_) ?_
          · obtain rfl : j = 0 := by omega
            simp at hy; subst hy; trivial
          intro a8 w8 b2 cap2 N2 row2 u2 hc1 hc2 hrow0 hrow1 hb2 hr8
          refine seg cfg4_ok mixed PanicFree.body 1000 [] [] hr8 (by first | trivial | exact HpRep.nil | assumption) (by kernel_rfl) fun s_ hs_ => ?_
          simp (maxSteps := 10000000) [SX.vc, SX.stop, SX.contS, SX.contB, SX.contW, SX.contR, SX.contD, SX.sxStep, SX.stepPure, SX.stepNew, SX.stepStore, SX.stepKeep, SX.guardIx, SX.evOp, SX.opd, SX.opds, SX.optOpd, SX.look, SX.putS, SX.gobs, SX.AllP, SX.leave, SX.lookC, SX.lookB, SX.lookT, SX.lookN, SX.findK, SX.evBuiltin, SX.ints, SX.foldI, SX.evBin, SX.evInt, SX.evStr, SX.evEq, SX.arith, SX.evLoad, SX.shapeUp, SX.evFieldAddr, SX.evField, SX.evIndexAddr, SX.evIndex, SX.evFill, SX.evBuild, SX.szs, SX.cellsV, SX.evNew, SX.evStore, SX.spliceL, SX.SV.cells, SX.evConv, SX.evSlice, SX.bnd, SX.evNil, SX.evUn, SX.evPick, SX.pickOpd, SX.popTo, SX.cnd, SX.env0, SX.TD.isAgg, SX.TD.isIface, SX.tails, SX.NotAgg, SX.evLookup, SX.evConvH, SX.evPtrEq, SX.isCells, Go.Value.cells, cfg4]
          refine ⟨by (unfold SX.Ob; first | trivial | omega | ((try simp only [SX.inK]); (try simp [SX.den, SX.IsU8, *]); (try omega))), ?_⟩
          intro a9 w9 hr9 _
          have h9 := hr9.all
          have h0 := hrow1 0 (by omega)
          have h10 : w.heap.size ≤ w7.heap.size := hr7.keeps.size
          have hbb2 : w.heap.size ≤ b2 := by
            rcases hb2 with ⟨h11, _⟩ | rfl
            · cases h11
            · exact h10
          subst hkz
          refine post_rnd (n - (0 + 1)) (by omega) ⟨0 + 1, .sl 0 b2 0 0 (0 + 1) cap2 1, [(b2, true, .arr 0 N2 row2 1 u2 (0, 0))], rfl, hlt, .inr ⟨b2, cap2, N2, row2, u2, by omega, hbb2, rfl, rfl, by omega, hc2, fun j hj => ?_⟩, hr9.re (by simp [envTo, SX.look, den]) ⟨⟨h9.2.2.2.1.1, h9.2.2.2.1.2.1, by simp⟩, trivial⟩ rfl rfl⟩
          obtain rfl : j = 0 := by omega
          simp at h0
          rw [h0, hgk]
        · have hX := hr4.all
          have hr6 : RepX (frame0 w) ⟨[(24, 0, .v (.int .i64 k)), (23, 0, .v (.int .i64 n)), (9, 0, .sl 2 b' 0 0 k cap 1), (8, 0, .v (.int .i64 n)), (7, 0, .v (.bool true)), (2, 0, .sl 1 bc 0 oc lc cc 1), (1, 0, .sl 0 ba 0 ob lb cb 1), (0, 0, .sl 0 ba 0 oa la ca 1)], [(ba, false, .arr 0 (cellsAt w ba).size (fullRow w ba) 1 (tyAt w ba) (fzAt w ba)), (bc, false, .arr 0 (cellsAt w bc).size (fullRow w bc) 1 (tyAt w bc) (fzAt w bc)), (b', true, .arr 0 N row 1 u (0, 0))], 0, 0, 74, [], [], []⟩ a4 w4 :=
            hr4.re (by simp [envTo, SX.look, den]) ⟨⟨f4a, by simp, (by intro e9 he9; simp at he9; rcases he9 with rfl | rfl <;> simp <;> omega)⟩, ⟨f4c, by simp, (by intro e9 he9; simp at he9; subst he9 <;> simp <;> omega)⟩, ⟨hX.1.1, hX.1.2.1, by simp⟩, trivial⟩ rfl rfl
          refine seg cfg4_ok mixed PanicFree.body 1000 [true] [] hr6 (by first | trivial | exact HpRep.nil | assumption) (by kernel_rfl) fun s_ hs_ => ?_
          simp (maxSteps := 10000000) [SX.vc, SX.stop, SX.contS, SX.contB, SX.contW, SX.contR, SX.contD, SX.sxStep, SX.stepPure, SX.stepNew, SX.stepStore, SX.stepKeep, SX.guardIx, SX.evOp, SX.opd, SX.opds, SX.optOpd, SX.look, SX.putS, SX.gobs, SX.AllP, SX.leave, SX.lookC, SX.lookB, SX.lookT, SX.lookN, SX.findK, SX.evBuiltin, SX.ints, SX.foldI, SX.evBin, SX.evInt, SX.evStr, SX.evEq, SX.arith, SX.evLoad, SX.shapeUp, SX.evFieldAddr, SX.evField, SX.evIndexAddr, SX.evIndex, SX.evFill, SX.evBuild, SX.szs, SX.cellsV, SX.evNew, SX.evStore, SX.spliceL, SX.SV.cells, SX.evConv, SX.evSlice, SX.bnd, SX.evNil, SX.evUn, SX.evPick, SX.pickOpd, SX.popTo, SX.cnd, SX.env0, SX.TD.isAgg, SX.TD.isIface, SX.tails, SX.NotAgg, SX.evLookup, SX.evConvH, SX.evPtrEq, SX.isCells, Go.Value.cells, cfg4, hka, hkb, hkc, vx8, ja, jb, jc]
          refine ⟨by (unfold SX.Ob; first | trivial | omega | ((try simp only [SX.inK]); (try simp [SX.den, SX.IsU8, *]); (try omega))), ?_⟩
          intro a7 w7 hr7 _
          refine post_appendD cfg4_ok hr7 rfl rfl rfl rfl (by simp) rfl rfl (t := 22) (t' := 22) rfl rfl rfl rfl rfl rfl (by decide) (j := 3) rfl rfl (base2 := 0) (by omega) (.inr ⟨rfl, rfl, hd2, hd1⟩) (by omega) (by show (2 * (k + 1) + 192) * 1 ≤ 281474976710656; omega) (fun j hj y hy => ?_) ?_
          · obtain rfl : j = 0 := by omega
            simp at hy; subst hy; trivial
          intro a8 w8 b2 cap2 N2 row2 u2 hc1 hc2 hrow0 hrow1 hb2 hr8
          refine seg cfg4_ok mixed PanicFree.body 1000 [] [] hr8 (by first | trivial | exact HpRep.nil | assumption) (by kernel_rfl) fun s_ hs_ => ?_
          simp (maxSteps := 10000000) [SX.vc, SX.stop, SX.contS, SX.contB, SX.contW, SX.contR, SX.contD, SX.sxStep, SX.stepPure, SX.stepNew, SX.stepStore, SX.stepKeep, SX.guardIx, SX.evOp, SX.opd, SX.opds, SX.optOpd, SX.look, SX.putS, SX.gobs, SX.AllP, SX.leave, SX.lookC, SX.lookB, SX.lookT, SX.lookN, SX.findK, SX.evBuiltin, SX.ints, SX.foldI, SX.evBin, SX.evInt, SX.evStr, SX.evEq, SX.arith, SX.evLoad, SX.shapeUp, SX.evFieldAddr, SX.evField, SX.evIndexAddr, SX.evIndex, SX.evFill, SX.evBuild, SX.szs, SX.cellsV, SX.evNew, SX.evStore, SX.spliceL, SX.SV.cells, SX.evConv, SX.evSlice, SX.bnd, SX.evNil, SX.evUn, SX.evPick, SX.pickOpd, SX.popTo, SX.cnd, SX.env0, SX.TD.isAgg, SX.TD.isIface, SX.tails, SX.NotAgg, SX.evLookup, SX.evConvH, SX.evPtrEq, SX.isCells, Go.Value.cells, cfg4]
          refine ⟨by (unfold SX.Ob; first | trivial | omega | ((try simp only [SX.inK]); (try simp [SX.den, SX.IsU8, *]); (try omega))), ?_⟩
          intro a9 w9 hr9 _
          have h9 := hr9.all
          have h0 := hrow1 0 (by omega)
          have h10 : w.heap.size ≤ w7.heap.size := hr7.keeps.size
          have hbb2 : w.heap.size ≤ b2 := by
            rcases hb2 with ⟨_, rfl⟩ | rfl
            · exact hB'
            · exact h10
          refine post_rnd (n - (k + 1)) (by omega) ⟨k + 1, .sl 0 b2 0 0 (k + 1) cap2 1, [(b2, true, .arr 0 N2 row2 1 u2 (0, 0))], rfl, hlt, .inr ⟨b2, cap2, N2, row2, u2, by omega, hbb2, rfl, rfl, by omega, hc2, fun j hj => ?_⟩, hr9.re (by simp [envTo, SX.look, den]) ⟨⟨h9.2.2.1.1, h9.2.2.1.2.1, by simp⟩, trivial⟩ rfl rfl⟩
          by_cases hjk : j < k
          · rw [hrow0 j hjk]; exact hrow j hjk
          · obtain rfl : j = k := by omega
            simp at h0
            rw [h0, hgk]
    · by_cases q2 : ba = bc
      · subst q2
        rcases hx with ⟨hkz, rfl, rfl⟩ | ⟨b', cap, N, row, u, hk0, hB', rfl, rfl, hd1, hd2, hrow⟩
        · have hr6 : RepX (frame0 w) ⟨[(24, 0, .v (.int .i64 k)), (23, 0, .v (.int .i64 n)), (9, 0, .v (.slice none 0 0)), (8, 0, .v (.int .i64 n)), (7, 0, .v (.bool true)), (2, 0, .sl 0 ba 0 oc lc cc 1), (1, 0, .sl 1 bb 0 ob lb cb 1), (0, 0, .sl 0 ba 0 oa la ca 1)], [(ba, false, .arr 0 (cellsAt w ba).size (fullRow w ba) 1 (tyAt w ba) (fzAt w ba)), (bb, false, .arr 0 (cellsAt w bb).size (fullRow w bb) 1 (tyAt w bb) (fzAt w bb))], 0, 0, 74, [], [], []⟩ a4 w4 :=
            hr4.re (by simp [envTo, SX.look, den]) ⟨⟨f4a, by simp, (by intro e9 he9; simp at he9; subst he9 <;> simp <;> omega)⟩, ⟨f4b, by simp, by simp⟩, trivial⟩ rfl rfl
          refine seg cfg4_ok mixed PanicFree.body 1000 [true] [] hr6 (by first | trivial | exact HpRep.nil | assumption) (by kernel_rfl) fun s_ hs_ => ?_
          simp (maxSteps := 10000000) [SX.vc, SX.stop, SX.contS, SX.contB, SX.contW, SX.contR, SX.contD, SX.sxStep, SX.stepPure, SX.stepNew, SX.stepStore, SX.stepKeep, SX.guardIx, SX.evOp, SX.opd, SX.opds, SX.optOpd, SX.look, SX.putS, SX.gobs, SX.AllP, SX.leave, SX.lookC, SX.lookB, SX.lookT, SX.lookN, SX.findK, SX.evBuiltin, SX.ints, SX.foldI, SX.evBin, SX.evInt, SX.evStr, SX.evEq, SX.arith, SX.evLoad, SX.shapeUp, SX.evFieldAddr, SX.evField, SX.evIndexAddr, SX.evIndex, SX.evFill, SX.evBuild, SX.szs, SX.cellsV, SX.evNew, SX.evStore, SX.spliceL, SX.SV.cells, SX.evConv, SX.evSlice, SX.bnd, SX.evNil, SX.evUn, SX.evPick, SX.pickOpd, SX.popTo, SX.cnd, SX.env0, SX.TD.isAgg, SX.TD.isIface, SX.tails, SX.NotAgg, SX.evLookup, SX.evConvH, SX.evPtrEq, SX.isCells, Go.Value.cells, cfg4, hka, hkb, hkc, vx8, ja, jb, jc]
          refine ⟨by (unfold SX.Ob; first | trivial | omega | ((try simp only [SX.inK]); (try simp [SX.den, SX.IsU8, *]); (try omega))), ?_⟩
          intro a7 w7 hr7 _
          refine post_appendD cfg4_ok hr7 rfl rfl rfl rfl (by simp) rfl rfl (t := 22) (t' := 22) rfl rfl rfl rfl rfl rfl (by decide) (j := 2) rfl rfl (base2 := 0) (by omega) (.inl ⟨rfl, rfl, rfl, rfl⟩) (b := 0) (N := 0) (row := fun _ => []) (u := 0) (by omega) (by show (2 * (0 + 1) + 192) * 1 ≤ 281474976710656; omega) (fun j hj y hy => ?_) ?_
          · obtain rfl : j = 0 := by omega
            simp at hy; subst hy; trivial
          intro a8 w8 b2 cap2 N2 row2 u2 hc1 hc2 hrow0 hrow1 hb2 hr8
          refine seg cfg4_ok mixed PanicFree.body 1000 [] [] hr8 (by first | trivial | exact HpRep.nil | assumption) (by kernel_rfl) fun s_ hs_ => ?_
          simp (maxSteps := 10000000) [SX.vc, SX.stop, SX.contS, SX.contB, SX.contW, SX.contR, SX.contD, SX.sxStep, SX.stepPure, SX.stepNew, SX.stepStore, SX.stepKeep, SX.guardIx, SX.evOp, SX.opd, SX.opds, SX.optOpd, SX.look, SX.putS, SX.gobs, SX.AllP, SX.leave, SX.lookC, SX.lookB, SX.lookT, SX.lookN, SX.findK, SX.evBuiltin, SX.ints, SX.foldI, SX.evBin, SX.evInt, SX.evStr, SX.evEq, SX.arith, SX.evLoad, SX.shapeUp, SX.evFieldAddr, SX.evField, SX.evIndexAddr, SX.evIndex, SX.evFill, SX.evBuild, SX.szs, SX.cellsV, SX.evNew, SX.evStore, SX.spliceL, SX.SV.cells, SX.evConv, SX.evSlice, SX.bnd, SX.evNil, SX.evUn, SX.evPick, SX.pickOpd, SX.popTo, SX.cnd, SX.env0, SX.TD.isAgg, SX.TD.isIface, SX.tails, SX.NotAgg, SX.evLookup, SX.evConvH, SX.evPtrEq, SX.isCells, Go.Value.cells, cfg4]
          refine ⟨by (unfold SX.Ob; first | trivial | omega | ((try simp only [SX.inK]); (try simp [SX.den, SX.IsU8, *]); (try omega))), ?_⟩
          intro a9 w9 hr9 _
          have h9 := hr9.all
          have h0 := hrow1 0 (by omega)
          have h10 : w.heap.size ≤ w7.heap.size := hr7.keeps.size
          have hbb2 : w.heap.size ≤ b2 := by
            rcases hb2 with ⟨h11, _⟩ | rfl
            · cases h11
            · exact h10
          subst hkz
          refine post_rnd (n - (0 + 1)) (by omega) ⟨0 + 1, .sl 0 b2 0 0 (0 + 1) cap2 1, [(b2, true, .arr 0 N2 row2 1 u2 (0, 0))], rfl, hlt, .inr ⟨b2, cap2, N2, row2, u2, by omega, hbb2, rfl, rfl, by omega, hc2, fun j hj => ?_⟩, hr9.re (by simp [envTo, SX.look, den]) ⟨⟨h9.2.2.2.1.1, h9.2.2.2.1.2.1, by simp⟩, trivial⟩ rfl rfl⟩
          obtain rfl : j = 0 := by omega
          simp at h0
          rw [h0, hgk]
        · have hX := hr4.all
          have hr6 : RepX (frame0 w) ⟨[(24, 0, .v (.int .i64 k)), (23, 0, .v (.int .i64 n)), (9, 0, .sl 2 b' 0 0 k cap 1), (8, 0, .v (.int .i64 n)), (7, 0, .v (.bool true)), (2, 0, .sl 0 ba 0 oc lc cc 1), (1, 0, .sl 1 bb 0 ob lb cb 1), (0, 0, .sl 0 ba 0 oa la ca 1)], [(ba, false, .arr 0 (cellsAt w ba).size (fullRow w ba) 1 (tyAt w ba) (fzAt w ba)), (bb, false, .arr 0 (cellsAt w bb).size (fullRow w bb) 1 (tyAt w bb) (fzAt w bb)), (b', true, .arr 0 N row 1 u (0, 0))], 0, 0, 74, [], [], []⟩ a4 w4 :=
            hr4.re (by simp [envTo, SX.look, den]) ⟨⟨f4a, by simp, (by intro e9 he9; simp at he9; rcases he9 with rfl | rfl <;> simp <;> omega)⟩, ⟨f4b, by simp, (by intro e9 he9; simp at he9; subst he9 <;> simp <;> omega)⟩, ⟨hX.1.1, hX.1.2.1, by simp⟩, trivial⟩ rfl rfl
          refine seg cfg4_ok mixed PanicFree.body 1000 [true] [] hr6 (by first | trivial | exact HpRep.nil | assumption) (by kernel_rfl) fun s_ hs_ => ?_
          simp (maxSteps := 10000000) [SX.vc, SX.stop, SX.contS, SX.contB, SX.contW, SX.contR, SX.contD, SX.sxStep, SX.stepPure, SX.stepNew, SX.stepStore, SX.stepKeep, SX.guardIx, SX.evOp, SX.opd, SX.opds, SX.optOpd, SX.look, SX.putS, SX.gobs, SX.AllP, SX.leave, SX.lookC, SX.lookB, SX.lookT, SX.lookN, SX.findK, SX.evBuiltin, SX.ints, SX.foldI, SX.evBin, SX.evInt, SX.evStr, SX.evEq, SX.arith, SX.evLoad, SX.shapeUp, SX.evFieldAddr, SX.evField, SX.evIndexAddr, SX.evIndex, SX.evFill, SX.evBuild, SX.szs, SX.cellsV, SX.evNew, SX.evStore, SX.spliceL, SX.SV.cells, SX.evConv, SX.evSlice, SX.bnd, SX.evNil, SX.evUn, SX.evPick, SX.pickOpd, SX.popTo, SX.cnd, SX.env0, SX.TD.isAgg, SX.TD.isIface, SX.tails, SX.NotAgg, SX.evLookup, SX.evConvH, SX.evPtrEq, SX.isCells, Go.Value.cells, cfg4, hka, hkb, hkc, vx8, ja, jb, jc]
          refine ⟨by (unfold SX.Ob; first | trivial | omega | ((try simp only [SX.inK]); (try simp [SX.den, SX.IsU8, *]); (try omega))), ?_⟩
          intro a7 w7 hr7 _
          refine post_appendD cfg4_ok hr7 rfl rfl rfl rfl (by simp) rfl rfl (t := 22) (t' := 22) rfl rfl rfl rfl rfl rfl (by decide) (j := 3) rfl rfl (base2 := 0) (by omega) (.inr ⟨rfl, rfl, hd2, hd1⟩) (by omega) (by show (2 * (k + 1) + 192) * 1 ≤ 281474976710656; omega) (fun j hj y hy => ?_) ?_
          · obtain rfl : j = 0 := by omega
            simp at hy; subst hy; trivial
          intro a8 w8 b2 cap2 N2 row2 u2 hc1 hc2 hrow0 hrow1 hb2 hr8
          refine seg cfg4_ok mixed PanicFree.body 1000 [] [] hr8 (by first | trivial | exact HpRep.nil | assumption) (by kernel_rfl) fun s_ hs_ => ?_
          simp (maxSteps := 10000000) [SX.vc, SX.stop, SX.contS, SX.contB, SX.contW, SX.contR, SX.contD, SX.sxStep, SX.stepPure, SX.stepNew, SX.stepStore, SX.stepKeep, SX.guardIx, SX.evOp, SX.opd, SX.opds, SX.optOpd, SX.look, SX.putS, SX.gobs, SX.AllP, SX.leave, SX.lookC, SX.lookB, SX.lookT, SX.lookN, SX.findK, SX.evBuiltin, SX.ints, SX.foldI, SX.evBin, SX.evInt, SX.evStr, SX.evEq, SX.arith, SX.evLoad, SX.shapeUp, SX.evFieldAddr, SX.evField, SX.evIndexAddr, SX.evIndex, SX.evFill, SX.evBuild, SX.szs, SX.cellsV, SX.evNew, SX.evStore, SX.spliceL, SX.SV.cells, SX.evConv, SX.evSlice, SX.bnd, SX.evNil, SX.evUn, SX.evPick, SX.pickOpd, SX.popTo, SX.cnd, SX.env0, SX.TD.isAgg, SX.TD.isIface, SX.tails, SX.NotAgg, SX.evLookup, SX.evConvH, SX.evPtrEq, SX.isCells, Go.Value.cells, cfg4]
          refine ⟨by (unfold SX.Ob; first | trivial | omega | ((try simp only [SX.inK]); (try simp [SX.den, SX.IsU8, *]); (try omega))), ?_⟩
          intro a9 w9 hr9 _
          have h9 := hr9.all
          have h0 := hrow1 0 (by omega)
          have h10 : w.heap.size ≤ w7.heap.size := hr7.keeps.size
          have hbb2 : w.heap.size ≤ b2 := by
            rcases hb2 with ⟨_, rfl⟩ | rfl
            · exact hB'
            · exact h10
          refine post_rnd (n - (k + 1)) (by omega) ⟨k + 1, .sl 0 b2 0 0 (k + 1) cap2 1, [(b2, true, .arr 0 N2 row2 1 u2 (0, 0))], rfl, hlt, .inr ⟨b2, cap2, N2, row2, u2, by omega, hbb2, rfl, rfl, by omega, hc2, fun j hj => ?_⟩, hr9.re (by simp [envTo, SX.look, den]) ⟨⟨h9.2.2.1.1, h9.2.2.1.2.1, by simp⟩, trivial⟩ rfl rfl⟩
          by_cases hjk : j < k
          · rw [hrow0 j hjk]; exact hrow j hjk
          · obtain rfl : j = k := by omega
            simp at h0
            rw [h0, hgk]
      · by_cases q3 : bb = bc
        · subst q3
          rcases hx with ⟨hkz, rfl, rfl⟩ | ⟨b', cap, N, row, u, hk0, hB', rfl, rfl, hd1, hd2, hrow⟩
          · have hr6 : RepX (frame0 w) ⟨[(24, 0, .v (.int .i64 k)), (23, 0, .v (.int .i64 n)), (9, 0, .v (.slice none 0 0)), (8, 0, .v (.int .i64 n)), (7, 0, .v (.bool true)), (2, 0, .sl 1 bb 0 oc lc cc 1), (1, 0, .sl 1 bb 0 ob lb cb 1), (0, 0, .sl 0 ba 0 oa la ca 1)], [(ba, false, .arr 0 (cellsAt w ba).size (fullRow w ba) 1 (tyAt w ba) (fzAt w ba)), (bb, false, .arr 0 (cellsAt w bb).size (fullRow w bb) 1 (tyAt w bb) (fzAt w bb))], 0, 0, 74, [], [], []⟩ a4 w4 :=
              hr4.re (by simp [envTo, SX.look, den]) ⟨⟨f4a, by simp, (by intro e9 he9; simp at he9; subst he9 <;> simp <;> omega)⟩, ⟨f4b, by simp, by simp⟩, trivial⟩ rfl rfl
            refine seg cfg4_ok mixed PanicFree.body 1000 [true] [] hr6 (by first | trivial | exact HpRep.nil | assumption) (by kernel_rfl) fun s_ hs_ => ?_
            simp (maxSteps := 10000000) [SX.vc, SX.stop, SX.contS, SX.contB, SX.contW, SX.contR, SX.contD, SX.sxStep, SX.stepPure, SX.stepNew, SX.stepStore, SX.stepKeep, SX.guardIx, SX.evOp, SX.opd, SX.opds, SX.optOpd, SX.look, SX.putS, SX.gobs, SX.AllP, SX.leave, SX.lookC, SX.lookB, SX.lookT, SX.lookN, SX.findK, SX.evBuiltin, SX.ints, SX.foldI, SX.evBin, SX.evInt, SX.evStr, SX.evEq, SX.arith, SX.evLoad, SX.shapeUp, SX.evFieldAddr, SX.evField, SX.evIndexAddr, SX.evIndex, SX.evFill, SX.evBuild, SX.szs, SX.cellsV, SX.evNew, SX.evStore, SX.spliceL, SX.SV.cells, SX.evConv, SX.evSlice, SX.bnd, SX.evNil, SX.evUn, SX.evPick, SX.pickOpd, SX.popTo, SX.cnd, SX.env0, SX.TD.isAgg, SX.TD.isIface, SX.tails, SX.NotAgg, SX.evLookup, SX.evConvH, SX.evPtrEq, SX.isCells, Go.Value.cells, cfg4, hka, hkb, hkc, vx8, ja, jb, jc]
            refine ⟨by (unfold SX.Ob; first | trivial | omega | ((try simp only [SX.inK]); (try simp [SX.den, SX.IsU8, *]); (try omega))), ?_⟩
            intro a7 w7 hr7 _
            refine post_appendD cfg4_ok hr7 rfl rfl rfl rfl (by simp) rfl rfl (t := 22) (t' := 22) rfl rfl rfl rfl rfl rfl (by decide) (j := 2) rfl rfl (base2 := 0) (by omega) (.inl ⟨rfl, rfl, rfl, rfl⟩) (b := 0) (N := 0) (row := fun _ => []) (u := 0) (by omega) (by show (2 * (0 + 1) + 192) * 1 ≤ 281474976710656; omega) (fun j hj y hy => ?_) ?_
            · obtain rfl : j = 0 := by omega
              simp at hy; subst hy; trivial
            intro a8 w8 b2 cap2 N2 row2 u2 hc1 hc2 hrow0 hrow1 hb2 hr8
            refine seg cfg4_ok mixed PanicFree.body 1000 [] [] hr8 (by first | trivial | exact HpRep.nil | assumption) (by kernel_rfl) fun s_ hs_ => ?_
            simp (maxSteps := 10000000) [SX.vc, SX.stop, SX.contS, SX.contB, SX.contW, SX.contR, SX.contD, SX.sxStep, SX.stepPure, SX.stepNew, SX.stepStore, SX.stepKeep, SX.guardIx, SX.evOp, SX.opd, SX.opds, SX.optOpd, SX.look, SX.putS, SX.gobs, SX.AllP, SX.leave, SX.lookC, SX.lookB, SX.lookT, SX.lookN, SX.findK, SX.evBuiltin, SX.ints, SX.foldI, SX.evBin, SX.evInt, SX.evStr, SX.evEq, SX.arith, SX.evLoad, SX.shapeUp, SX.evFieldAddr, SX.evField, SX.evIndexAddr, SX.evIndex, SX.evFill, SX.evBuild, SX.szs, SX.cellsV, SX.evNew, SX.evStore, SX.spliceL, SX.SV.cells, SX.evConv, SX.evSlice, SX.bnd, SX.evNil, SX.evUn, SX.evPick, SX.pickOpd, SX.popTo, SX.cnd, SX.env0, SX.TD.isAgg, SX.TD.isIface, SX.tails, SX.NotAgg, SX.evLookup, SX.evConvH, SX.evPtrEq, SX.isCells, Go.Value.cells, cfg4]
            refine ⟨by (unfold SX.Ob; first | trivial | omega | ((try simp only [SX.inK]); (try simp [SX.den, SX.IsU8, *]); (try omega))), ?_⟩
            intro a9 w9 hr9 _
            have h9 := hr9.all
            have h0 := hrow1 0 (by omega)
            have h10 : w.heap.size ≤ w7.heap.size := hr7.keeps.size
            have hbb2 : w.heap.size ≤ b2 := by
              rcases hb2 with ⟨h11, _⟩ | rfl
              · cases h11
              · exact h10
            subst hkz
            refine post_rnd (n - (0 + 1)) (by omega) ⟨0 + 1, .sl 0 b2 0 0 (0 + 1) cap2 1, [(b2, true, .arr 0 N2 row2 1 u2 (0, 0))], rfl, hlt, .inr ⟨b2, cap2, N2, row2, u2, by omega, hbb2, rfl, rfl, by omega, hc2, fun j hj => ?_⟩, hr9.re (by simp [envTo, SX.look, den]) ⟨⟨h9.2.2.2.1.1, h9.2.2.2.1.2.1, by simp⟩, trivial⟩ rfl rfl⟩
            obtain rfl : j = 0 := by omega
            simp at h0
            rw [h0, hgk]
          · have hX := hr4.all
            have hr6 : RepX (frame0 w) ⟨[(24, 0, .v (.int .i64 k)), (23, 0, .v (.int .i64 n)), (9, 0, .sl 2 b' 0 0 k cap 1), (8, 0, .v (.int .i64 n)), (7, 0, .v (.bool true)), (2, 0, .sl 1 bb 0 oc lc cc 1), (1, 0, .sl 1 bb 0 ob lb cb 1), (0, 0, .sl 0 ba 0 oa la ca 1)], [(ba, false, .arr 0 (cellsAt w ba).size (fullRow w ba) 1 (tyAt w ba) (fzAt w ba)), (bb, false, .arr 0 (cellsAt w bb).size (fullRow w bb) 1 (tyAt w bb) (fzAt w bb)), (b', true, .arr 0 N row 1 u (0, 0))], 0, 0, 74, [], [], []⟩ a4 w4 :=
              hr4.re (by simp [envTo, SX.look, den]) ⟨⟨f4a, by simp, (by intro e9 he9; simp at he9; rcases he9 with rfl | rfl <;> simp <;> omega)⟩, ⟨f4b, by simp, (by intro e9 he9; simp at he9; subst he9 <;> simp <;> omega)⟩, ⟨hX.1.1, hX.1.2.1, by simp⟩, trivial⟩ rfl rfl
            refine seg cfg4_ok mixed PanicFree.body 1000 [true] [] hr6 (by first | trivial | exact HpRep.nil | assumption) (by kernel_rfl) fun s_ hs_ => ?_
            simp (maxSteps := 10000000) [SX.vc, SX.stop, SX.contS, SX.contB, SX.contW, SX.contR, SX.contD, SX.sxStep, SX.stepPure, SX.stepNew, SX.stepStore, SX.stepKeep, SX.guardIx, SX.evOp, SX.opd, SX.opds, SX.optOpd, SX.look, SX.putS, SX.gobs, SX.AllP, SX.leave, SX.lookC, SX.lookB, SX.lookT, SX.lookN, SX.findK, SX.evBuiltin, SX.ints, SX.foldI, SX.evBin, SX.evInt, SX.evStr, SX.evEq, SX.arith, SX.evLoad, SX.shapeUp, SX.evFieldAddr, SX.evField, SX.evIndexAddr, SX.evIndex, SX.evFill, SX.evBuild, SX.szs, SX.cellsV, SX.evNew, SX.evStore, SX.spliceL, SX.SV.cells, SX.evConv, SX.evSlice, SX.bnd, SX.evNil, SX.evUn, SX.evPick, SX.pickOpd, SX.popTo, SX.cnd, SX.env0, SX.TD.isAgg, SX.TD.isIface, SX.tails, SX.NotAgg, SX.evLookup, SX.evConvH, SX.evPtrEq, SX.isCells, Go.Value.cells, cfg4, hka, hkb, hkc, vx8, ja, jb, jc]
            refine ⟨by (unfold SX.Ob; first | trivial | omega | ((try simp only [SX.inK]); (try simp [SX.den, SX.IsU8, *]); (try omega))), ?_⟩
            intro a7 w7 hr7 _
            refine post_appendD cfg4_ok hr7 rfl rfl rfl rfl (by simp) rfl rfl (t := 22) (t' := 22) rfl rfl rfl rfl rfl rfl (by decide) (j := 3) rfl rfl (base2 := 0) (by omega) (.inr ⟨rfl, rfl, hd2, hd1⟩) (by omega) (by show (2 * (k + 1) + 192) * 1 ≤ 281474976710656; omega) (fun j hj y hy => ?_) ?_
            · obtain rfl : j = 0 := by omega
              simp at hy; subst hy; trivial
            intro a8 w8 b2 cap2 N2 row2 u2 hc1 hc2 hrow0 hrow1 hb2 hr8
            refine seg cfg4_ok mixed PanicFree.body 1000 [] [] hr8 (by first | trivial | exact HpRep.nil | assumption) (by kernel_rfl) fun s_ hs_ => ?_
            simp (maxSteps := 10000000) [SX.vc, SX.stop, SX.contS, SX.contB, SX.contW, SX.contR, SX.contD, SX.sxStep, SX.stepPure, SX.stepNew, SX.stepStore, SX.stepKeep, SX.guardIx, SX.evOp, SX.opd, SX.opds, SX.optOpd, SX.look, SX.putS, SX.gobs, SX.AllP, SX.leave, SX.lookC, SX.lookB, SX.lookT, SX.lookN, SX.findK, SX.evBuiltin, SX.ints, SX.foldI, SX.evBin, SX.evInt, SX.evStr, SX.evEq, SX.arith, SX.evLoad, SX.shapeUp, SX.evFieldAddr, SX.evField, SX.evIndexAddr, SX.evIndex, SX.evFill, SX.evBuild, SX.szs, SX.cellsV, SX.evNew, SX.evStore, SX.spliceL, SX.SV.cells, SX.evConv, SX.evSlice, SX.bnd, SX.evNil, SX.evUn, SX.evPick, SX.pickOpd, SX.popTo, SX.cnd, SX.env0, SX.TD.isAgg, SX.TD.isIface, SX.tails, SX.NotAgg, SX.evLookup, SX.evConvH, SX.evPtrEq, SX.isCells, Go.Value.cells, cfg4]
            refine ⟨by (unfold SX.Ob; first | trivial | omega | ((try simp only [SX.inK]); (try simp [SX.den, SX.IsU8, *]); (try omega))), ?_⟩
            intro a9 w9 hr9 _
            have h9 := hr9.all
            have h0 := hrow1 0 (by omega)
            have h10 : w.heap.size ≤ w7.heap.size := hr7.keeps.size
            have hbb2 : w.heap.size ≤ b2 := by
              rcases hb2 with ⟨_, rfl⟩ | rfl
              · exact hB'
              · exact h10
            refine post_rnd (n - (k + 1)) (by omega) ⟨k + 1, .sl 0 b2 0 0 (k + 1) cap2 1, [(b2, true, .arr 0 N2 row2 1 u2 (0, 0))], rfl, hlt, .inr ⟨b2, cap2, N2, row2, u2, by omega, hbb2, rfl, rfl, by omega, hc2, fun j hj => ?_⟩, hr9.re (by simp [envTo, SX.look, den]) ⟨⟨h9.2.2.1.1, h9.2.2.1.2.1, by simp⟩, trivial⟩ rfl rfl⟩
            by_cases hjk : j < k
            · rw [hrow0 j hjk]; exact hrow j hjk
            · obtain rfl : j = k := by omega
              simp at h0
              rw [h0, hgk]
        · rcases hx with ⟨hkz, rfl, rfl⟩ | ⟨b', cap, N, row, u, hk0, hB', rfl, rfl, hd1, hd2, hrow⟩
          · have hr6 : RepX (frame0 w) ⟨[(24, 0, .v (.int .i64 k)), (23, 0, .v (.int .i64 n)), (9, 0, .v (.slice none 0 0)), (8, 0, .v (.int .i64 n)), (7, 0, .v (.bool true)), (2, 0, .sl 2 bc 0 oc lc cc 1), (1, 0, .sl 1 bb 0 ob lb cb 1), (0, 0, .sl 0 ba 0 oa la ca 1)], [(ba, false, .arr 0 (cellsAt w ba).size (fullRow w ba) 1 (tyAt w ba) (fzAt w ba)), (bb, false, .arr 0 (cellsAt w bb).size (fullRow w bb) 1 (tyAt w bb) (fzAt w bb)), (bc, false, .arr 0 (cellsAt w bc).size (fullRow w bc) 1 (tyAt w bc) (fzAt w bc))], 0, 0, 74, [], [], []⟩ a4 w4 :=
              hr4.re (by simp [envTo, SX.look, den]) ⟨⟨f4a, by simp, (by intro e9 he9; simp at he9; rcases he9 with rfl | rfl <;> simp <;> omega)⟩, ⟨f4b, by simp, (by intro e9 he9; simp at he9; subst he9 <;> simp <;> omega)⟩, ⟨f4c, by simp, by simp⟩, trivial⟩ rfl rfl
            refine seg cfg4_ok mixed PanicFree.body 1000 [true] [] hr6 (by first | trivial | exact HpRep.nil | assumption) (by kernel_rfl) fun s_ hs_ => ?_
            simp (maxSteps := 10000000) [SX.vc, SX.stop, SX.contS, SX.contB, SX.contW, SX.contR, SX.contD, SX.sxStep, SX.stepPure, SX.stepNew, SX.stepStore, SX.stepKeep, SX.guardIx, SX.evOp, SX.opd, SX.opds, SX.optOpd, SX.look, SX.putS, SX.gobs, SX.AllP, SX.leave, SX.lookC, SX.lookB, SX.lookT, SX.lookN, SX.findK, SX.evBuiltin, SX.ints, SX.foldI, SX.evBin, SX.evInt, SX.evStr, SX.evEq, SX.arith, SX.evLoad, SX.shapeUp, SX.evFieldAddr, SX.evField, SX.evIndexAddr, SX.evIndex, SX.evFill, SX.evBuild, SX.szs, SX.cellsV, SX.evNew, SX.evStore, SX.spliceL, SX.SV.cells, SX.evConv, SX.evSlice, SX.bnd, SX.evNil, SX.evUn, SX.evPick, SX.pickOpd, SX.popTo, SX.cnd, SX.env0, SX.TD.isAgg, SX.TD.isIface, SX.tails, SX.NotAgg, SX.evLookup, SX.evConvH, SX.evPtrEq, SX.isCells, Go.Value.cells, cfg4, hka, hkb, hkc, vx8, ja, jb, jc]
            refine ⟨by (unfold SX.Ob; first | trivial | omega | ((try simp only [SX.inK]); (try simp [SX.den, SX.IsU8, *]); (try omega))), ?_⟩
            intro a7 w7 hr7 _
            refine post_appendD cfg4_ok hr7 rfl rfl rfl rfl (by simp) rfl rfl (t := 22) (t' := 22) rfl rfl rfl rfl rfl rfl (by decide) (j := 3) rfl rfl (base2 := 0) (by omega) (.inl ⟨rfl, rfl, rfl, rfl⟩) (b := 0) (N := 0) (row := fun _ => []) (u := 0) (by omega) (by show (2 * (0 + 1) + 192) * 1 ≤ 281474976710656; omega) (fun j hj y hy => ?_) ?_
            · obtain rfl : j = 0 := by omega
              simp at hy; subst hy; trivial
            intro a8 w8 b2 cap2 N2 row2 u2 hc1 hc2 hrow0 hrow1 hb2 hr8
            refine seg cfg4_ok mixed PanicFree.body 1000 [] [] hr8 (by first | trivial | exact HpRep.nil | assumption) (by kernel_rfl) fun s_ hs_ => ?_
            simp (maxSteps := 10000000) [SX.vc, SX.stop, SX.contS, SX.contB, SX.contW, SX.contR, SX.contD, SX.sxStep, SX.stepPure, SX.stepNew, SX.stepStore, SX.stepKeep, SX.guardIx, SX.evOp, SX.opd, SX.opds, SX.optOpd, SX.look, SX.putS, SX.gobs, SX.AllP, SX.leave, SX.lookC, SX.lookB, SX.lookT, SX.lookN, SX.findK, SX.evBuiltin, SX.ints, SX.foldI, SX.evBin, SX.evInt, SX.evStr, SX.evEq, SX.arith, SX.evLoad, SX.shapeUp, SX.evFieldAddr, SX.evField, SX.evIndexAddr, SX.evIndex, SX.evFill, SX.evBuild, SX.szs, SX.cellsV, SX.evNew, SX.evStore, SX.spliceL, SX.SV.cells, SX.evConv, SX.evSlice, SX.bnd, SX.evNil, SX.evUn, SX.evPick, SX.pickOpd, SX.popTo, SX.cnd, SX.env0, SX.TD.isAgg, SX.TD.isIface, SX.tails, SX.NotAgg, SX.evLookup, SX.evConvH, SX.evPtrEq, SX.isCells, Go.Value.cells, cfg4]
            refine ⟨by (unfold SX.Ob; first | trivial | omega | ((try simp only [SX.inK]); (try simp [SX.den, SX.IsU8, *]); (try omega))), ?_⟩
            intro a9 w9 hr9 _
            have h9 := hr9.all
            have h0 := hrow1 0 (by omega)
            have h10 : w.heap.size ≤ w7.heap.size := hr7.keeps.size
            have hbb2 : w.heap.size ≤ b2 := by
              rcases hb2 with ⟨h11, _⟩ | rfl
              · cases h11
              · exact h10
            subst hkz
            refine post_rnd (n - (0 + 1)) (by omega) ⟨0 + 1, .sl 0 b2 0 0 (0 + 1) cap2 1, [(b2, true, .arr 0 N2 row2 1 u2 (0, 0))], rfl, hlt, .inr ⟨b2, cap2, N2, row2, u2, by omega, hbb2, rfl, rfl, by omega, hc2, fun j hj => ?_⟩, hr9.re (by simp [envTo, SX.look, den]) ⟨⟨h9.2.2.2.2.1.1, h9.2.2.2.2.1.2.1, by simp⟩, trivial⟩ rfl rfl⟩
            obtain rfl : j = 0 := by omega
            simp at h0
            rw [h0, hgk]
          · have hX := hr4.all
            have hr6 : RepX (frame0 w) ⟨[(24, 0, .v (.int .i64 k)), (23, 0, .v (.int .i64 n)), (9, 0, .sl 3 b' 0 0 k cap 1), (8, 0, .v (.int .i64 n)), (7, 0, .v (.bool true)), (2, 0, .sl 2 bc 0 oc lc cc 1), (1, 0, .sl 1 bb 0 ob lb cb 1), (0, 0, .sl 0 ba 0 oa la ca 1)], [(ba, false, .arr 0 (cellsAt w ba).size (fullRow w ba) 1 (tyAt w ba) (fzAt w ba)), (bb, false, .arr 0 (cellsAt w bb).size (fullRow w bb) 1 (tyAt w bb) (fzAt w bb)), (bc, false, .arr 0 (cellsAt w bc).size (fullRow w bc) 1 (tyAt w bc) (fzAt w bc)), (b', true, .arr 0 N row 1 u (0, 0))], 0, 0, 74, [], [], []⟩ a4 w4 :=
              hr4.re (by simp [envTo, SX.look, den]) ⟨⟨f4a, by simp, (by intro e9 he9; simp at he9; rcases he9 with rfl | rfl | rfl <;> simp <;> omega)⟩, ⟨f4b, by simp, (by intro e9 he9; simp at he9; rcases he9 with rfl | rfl <;> simp <;> omega)⟩, ⟨f4c, by simp, (by intro e9 he9; simp at he9; subst he9 <;> simp <;> omega)⟩, ⟨hX.1.1, hX.1.2.1, by simp⟩, trivial⟩ rfl rfl
            refine seg cfg4_ok mixed PanicFree.body 1000 [true] [] hr6 (by first | trivial | exact HpRep.nil | assumption) (by kernel_rfl) fun s_ hs_ => ?_
            simp (maxSteps := 10000000) [SX.vc, SX.stop, SX.contS, SX.contB, SX.contW, SX.contR, SX.contD, SX.sxStep, SX.stepPure, SX.stepNew, SX.stepStore, SX.stepKeep, SX.guardIx, SX.evOp, SX.opd, SX.opds, SX.optOpd, SX.look, SX.putS, SX.gobs, SX.AllP, SX.leave, SX.lookC, SX.lookB, SX.lookT, SX.lookN, SX.findK, SX.evBuiltin, SX.ints, SX.foldI, SX.evBin, SX.evInt, SX.evStr, SX.evEq, SX.arith, SX.evLoad, SX.shapeUp, SX.evFieldAddr, SX.evField, SX.evIndexAddr, SX.evIndex, SX.evFill, SX.evBuild, SX.szs, SX.cellsV, SX.evNew, SX.evStore, SX.spliceL, SX.SV.cells, SX.evConv, SX.evSlice, SX.bnd, SX.evNil, SX.evUn, SX.evPick, SX.pickOpd, SX.popTo, SX.cnd, SX.env0, SX.TD.isAgg, SX.TD.isIface, SX.tails, SX.NotAgg, SX.evLookup, SX.evConvH, SX.evPtrEq, SX.isCells, Go.Value.cells, cfg4, hka, hkb, hkc, vx8, ja, jb, jc]
            refine ⟨by (unfold SX.Ob; first | trivial | omega | ((try simp only [SX.inK]); (try simp [SX.den, SX.IsU8, *]); (try omega))), ?_⟩
            intro a7 w7 hr7 _
            refine post_appendD cfg4_ok hr7 rfl rfl rfl rfl (by simp) rfl rfl (t := 22) (t' := 22) rfl rfl rfl rfl rfl rfl (by decide) (j := 4) rfl rfl (base2 := 0) (by omega) (.inr ⟨rfl, rfl, hd2, hd1⟩) (by omega) (by show (2 * (k + 1) + 192) * 1 ≤ 281474976710656; omega) (fun j hj y hy => ?_) ?_
            · obtain rfl : j = 0 := by omega
              simp at hy; subst hy; trivial
            intro a8 w8 b2 cap2 N2 row2 u2 hc1 hc2 hrow0 hrow1 hb2 hr8
            refine seg cfg4_ok mixed PanicFree.body 1000 [] [] hr8 (by first | trivial | exact HpRep.nil | assumption) (by kernel_rfl) fun s_ hs_ => ?_
            simp (maxSteps := 10000000) [SX.vc, SX.stop, SX.contS, SX.contB, SX.contW, SX.contR, SX.contD, SX.sxStep, SX.stepPure, SX.stepNew, SX.stepStore, SX.stepKeep, SX.guardIx, SX.evOp, SX.opd, SX.opds, SX.optOpd, SX.look, SX.putS, SX.gobs, SX.AllP, SX.leave, SX.lookC, SX.lookB, SX.lookT, SX.lookN, SX.findK, SX.evBuiltin, SX.ints, SX.foldI, SX.evBin, SX.evInt, SX.evStr, SX.evEq, SX.arith, SX.evLoad, SX.shapeUp, SX.evFieldAddr, SX.evField, SX.evIndexAddr, SX.evIndex, SX.evFill, SX.evBuild, SX.szs, SX.cellsV, SX.evNew, SX.evStore, SX.spliceL, SX.SV.cells, SX.evConv, SX.evSlice, SX.bnd, SX.evNil, SX.evUn, SX.evPick, SX.pickOpd, SX.popTo, SX.cnd, SX.env0, SX.TD.isAgg, SX.TD.isIface, SX.tails, SX.NotAgg, SX.evLookup, SX.evConvH, SX.evPtrEq, SX.isCells, Go.Value.cells, cfg4]
            refine ⟨by (unfold SX.Ob; first | trivial | omega | ((try simp only [SX.inK]); (try simp [SX.den, SX.IsU8, *]); (try omega))), ?_⟩
            intro a9 w9 hr9 _
            have h9 := hr9.all
            have h0 := hrow1 0 (by omega)
            have h10 : w.heap.size ≤ w7.heap.size := hr7.keeps.size
            have hbb2 : w.heap.size ≤ b2 := by
              rcases hb2 with ⟨_, rfl⟩ | rfl
              · exact hB'
              · exact h10
            refine post_rnd (n - (k + 1)) (by omega) ⟨k + 1, .sl 0 b2 0 0 (k + 1) cap2 1, [(b2, true, .arr 0 N2 row2 1 u2 (0, 0))], rfl, hlt, .inr ⟨b2, cap2, N2, row2, u2, by omega, hbb2, rfl, rfl, by omega, hc2, fun j hj => ?_⟩, hr9.re (by simp [envTo, SX.look, den]) ⟨⟨h9.2.2.2.1.1, h9.2.2.2.1.2.1, by simp⟩, trivial⟩ rfl rfl⟩
            by_cases hjk : j < k
            · rw [hrow0 j hjk]; exact hrow j hjk
            · obtain rfl : j = k := by omega
              simp at h0
              rw [h0, hgk]
  obtain rfl : k = n := by omega
  refine seg cfg4_ok mixed PanicFree.body 1000 [false] [] hr4.rebase (by first | trivial | exact HpRep.nil | assumption) (by kernel_rfl) fun s_ hs_ => ?_
  simp (maxSteps := 10000000) [SX.vc, SX.stop, SX.contS, SX.contB, SX.contW, SX.contR, SX.contD, SX.sxStep, SX.stepPure, SX.stepNew, SX.stepStore, SX.stepKeep, SX.guardIx, SX.evOp, SX.opd, SX.opds, SX.optOpd, SX.look, SX.putS, SX.gobs, SX.AllP, SX.leave, SX.lookC, SX.lookB, SX.lookT, SX.lookN, SX.findK, SX.evBuiltin, SX.ints, SX.foldI, SX.evBin, SX.evInt, SX.evStr, SX.evEq, SX.arith, SX.evLoad, SX.shapeUp, SX.evFieldAddr, SX.evField, SX.evIndexAddr, SX.evIndex, SX.evFill, SX.evBuild, SX.szs, SX.cellsV, SX.evNew, SX.evStore, SX.spliceL, SX.SV.cells, SX.evConv, SX.evSlice, SX.bnd, SX.evNil, SX.evUn, SX.evPick, SX.pickOpd, SX.popTo, SX.cnd, SX.env0, SX.TD.isAgg, SX.TD.isIface, SX.tails, SX.NotAgg, SX.evLookup, SX.evConvH, SX.evPtrEq, SX.isCells, Go.Value.cells, cfg4]
  refine ⟨by (unfold SX.Ob; first | trivial | omega | ((try simp only [SX.inK]); (try simp [SX.den, SX.IsU8, *]); (try omega))), ?_⟩
  intro a5 w5 hr5' _
  have hr5 := hr4.unbase hr5'
  have hz5 : w.heap.size ≤ w5.heap.size := hr5.keeps.size
  refine post_call 10 [] hr5 (wanted_none rfl) rfl (callable 10 Try.func10) (new_ok w5) ?_
  rintro e w6 ⟨b, rfl, hbz, hT6, hb6⟩
  have hwb : w.heap.size ≤ b := by omega
  refine ⟨_, rfl, ?_⟩
  obtain ⟨vx, hvx⟩ : ∃ vx, vx = den x := ⟨_, rfl⟩
  have hX5 : BV b w5 vx k gx := by
    have hA5 := hr5.all
    rcases hx with ⟨h1, h2, h3⟩ | ⟨b', cap, N, row, u, h0, h1, rfl, rfl, h3, h4, h5⟩
    · exact .inl ⟨h1, none, 0, by rw [hvx, h2]; rfl⟩
    · have := SO.rep_lt hA5.1.1
      exact .inr ⟨h0, b', 0, k, cap, u, (0, 0), by omega, by rw [hvx]; rfl, Nat.le_refl _, rep_arr_sub hA5.1.1 (by omega) fun j hj => by rw [h5 j hj]⟩
  have h6 := hr5.ret hb6 45 (.ptr 0 b 0) rfl [] trivial (by simp) rfl
  have hX6 := hX5.below hb6
  obtain ⟨ax, cx, rfl⟩ := hX6.slice
  have h6s : RepX (frame0 w) ⟨[(45, 0, .v (.pointer (some ⟨b, 0, none⟩))), (9, 0, .v (.slice ax k cx)), (8, 0, .v (.int .i64 k)), (7, 0, .v (.bool true)), (2, 0, .v (.slice ac lc cc)), (1, 0, .v (.slice ab lb cb)), (0, 0, .v (.slice aa la ca))], [], 0, 0, 74, [], [], []⟩ _ w6 :=
    h6.re (by simp [envTo, SX.look, den, hvx]) trivial rfl rfl
  refine seg cfg4_ok mixed PanicFree.body 1000 [] [] h6s.rebase (by first | trivial | exact HpRep.nil | assumption) (by kernel_rfl) fun s_ hs_ => ?_
  simp (maxSteps := 10000000) [SX.vc, SX.stop, SX.contS, SX.contB, SX.contW, SX.contR, SX.contD, SX.sxStep, SX.stepPure, SX.stepNew, SX.stepStore, SX.stepKeep, SX.guardIx, SX.evOp, SX.opd, SX.opds, SX.optOpd, SX.look, SX.putS, SX.gobs, SX.AllP, SX.leave, SX.lookC, SX.lookB, SX.lookT, SX.lookN, SX.findK, SX.evBuiltin, SX.ints, SX.foldI, SX.evBin, SX.evInt, SX.evStr, SX.evEq, SX.arith, SX.evLoad, SX.shapeUp, SX.evFieldAddr, SX.evField, SX.evIndexAddr, SX.evIndex, SX.evFill, SX.evBuild, SX.szs, SX.cellsV, SX.evNew, SX.evStore, SX.spliceL, SX.SV.cells, SX.evConv, SX.evSlice, SX.bnd, SX.evNil, SX.evUn, SX.evPick, SX.pickOpd, SX.popTo, SX.cnd, SX.env0, SX.TD.isAgg, SX.TD.isIface, SX.tails, SX.NotAgg, SX.evLookup, SX.evConvH, SX.evPtrEq, SX.isCells, Go.Value.cells, cfg4]
  refine ⟨by (unfold SX.Ob; first | trivial | omega | ((try simp only [SX.inK]); (try simp [SX.den, SX.IsU8, *]); (try omega))), ?_⟩
  intro a7 w7 hr7' _
  have hr7 := h6s.unbase hr7'
  have hb7 : Below w6.heap.size w6 w7 := by simpa [mutB] using hr7'.keeps.toBelow
  have hT7 := hT6.keep hb7
  have hX7 := hX6.below hb7
  have hA7 := (bvAt hA hr7.keeps b hwb).prefix hn1
  have hB7 := (bvAt hB hr7.keeps b hwb).prefix hn2
  have hC7 := (bvAt hC hr7.keeps b hwb).prefix hn3
  obtain ⟨A, hAA⟩ : ∃ A, A = ~~~ go ones ga k := ⟨_, rfl⟩
  obtain ⟨B, hBB⟩ : ∃ B, B = ~~~ go ones gb k := ⟨_, rfl⟩
  obtain ⟨C, hCC⟩ : ∃ C, C = ~~~ go ones gc k := ⟨_, rfl⟩
  have hXX : ~~~ go ones gx k = A ^^^ B ^^^ C := by rw [hAA, hBB, hCC, hgx]; exact lin_law ga gb gc k
  have hTn : ((T12 b k (.slice ax k cx) (.slice aa la ca) (.slice ab lb cb) (.slice ac lc cc) (.slice aa k ca) (.slice ab k cb) (.slice ac k cc) gx ga gb gc (A ^^^ B ^^^ C) A B C).map (·.1)).Nodup := by simp [T12]
  have hTf : ∀ e ∈ F12 b k (.slice ax k cx) (.slice aa la ca) (.slice ab lb cb) (.slice ac lc cc), ∀ t ∈ T12 b k (.slice ax k cx) (.slice aa la ca) (.slice ab lb cb) (.slice ac lc cc) (.slice aa k ca) (.slice ab k cb) (.slice ac k cc) gx ga gb gc (A ^^^ B ^^^ C) A B C, e.1 ≠ t.1 := by simp [F12, T12]
  have hTl : ∀ t ∈ T12 b k (.slice ax k cx) (.slice aa la ca) (.slice ab lb cb) (.slice ac lc cc) (.slice aa k ca) (.slice ab k cb) (.slice ac k cc) gx ga gb gc (A ^^^ B ^^^ C) A B C, t.1 < 74 := by simp [T12]
  refine post_any mixed (SlotInv w7 b 74 (T12 b k (.slice ax k cx) (.slice aa la ca) (.slice ab lb cb) (.slice ac lc cc) (.slice aa k ca) (.slice ab k cb) (.slice ac k cc) gx ga gb gc (A ^^^ B ^^^ C) A B C) (F12 b k (.slice ax k cx) (.slice aa la ca) (.slice ab lb cb) (.slice ac lc cc)) u12) (by kernel_rfl) ?_ ?_ ?_
  · refine ⟨hr7.env.1, hr7.env.2.1, keepsDrew' w7 b, ?_, ?_, ?_⟩
    · have h29 : u12 (Array.replicate 29 false) = 0 := by decide
      change TabRep _ b (u12 (Array.replicate 29 false))
      rw [h29]
      obtain ⟨d, T, q1, q2, q3⟩ := hT7
      refine ⟨d, T, q1, q2, ?_⟩
      exact q3
    · intro e he
      simp only [F12, List.mem_cons, List.not_mem_nil, or_false] at he
      rcases he with rfl | rfl | rfl | rfl | rfl | rfl | rfl
      · exact slotOf (x := .v (.bool true)) hr7 rfl
      · exact slotOf (x := .v (.pointer (some ⟨b, 0, none⟩))) hr7 rfl
      · exact slotOf (x := .v (.slice ax k cx)) hr7 rfl
      · exact slotOf (x := .v (.slice aa la ca)) hr7 rfl
      · exact slotOf (x := .v (.slice ab lb cb)) hr7 rfl
      · exact slotOf (x := .v (.slice ac lc cc)) hr7 rfl
      · exact slotOf (x := .v (.int .i64 k)) hr7 rfl
    · intro j d p hj hl
      simp [Array.getD] at hl
  · intro listed i o a8 w8 ho hs hl hd hI
    have hi29 : i < 29 := (Array.getElem?_eq_some_iff.1 ho).1
    have hwk : KeepsTo w7 [b] w8 := hI.kp
    have h07 := hI.live (7, .bool true) (by simp [F12])
    have h11 := hI.live (11, .pointer (some ⟨b, 0, none⟩)) (by simp [F12])
    have h09 := hI.live (9, .slice ax k cx) (by simp [F12])
    have h00 := hI.live (0, .slice aa la ca) (by simp [F12])
    have h01 := hI.live (1, .slice ab lb cb) (by simp [F12])
    have h02 := hI.live (2, .slice ac lc cc) (by simp [F12])
    have h08 := hI.live (8, .int .i64 k) (by simp [F12])
    have hlb8 := hI.tab.lt
    obtain rfl | rfl | rfl | rfl | rfl | rfl | rfl | rfl | rfl | rfl | rfl | rfl | rfl | rfl | rfl | rfl | rfl | rfl | rfl | rfl | rfl | rfl | rfl | rfl | rfl | rfl | rfl | rfl | rfl : i = 0 ∨ i = 1 ∨ i = 2 ∨ i = 3 ∨ i = 4 ∨ i = 5 ∨ i = 6 ∨ i = 7 ∨ i = 8 ∨ i = 9 ∨ i = 10 ∨ i = 11 ∨ i = 12 ∨ i = 13 ∨ i = 14 ∨ i = 15 ∨ i = 16 ∨ i = 17 ∨ i = 18 ∨ i = 19 ∨ i = 20 ∨ i = 21 ∨ i = 22 ∨ i = 23 ∨ i = 24 ∨ i = 25 ∨ i = 26 ∨ i = 27 ∨ i = 28 := by omega
    · cases ho
      have hr8 := mk0 (w := w8) (M := []) hI.size hI.defs [(7, .v (.bool true))] [] trivial (by
        intro e he
        simp only [List.mem_cons, List.not_mem_nil, or_false] at he
        rcases he with rfl
        · exact h07
        )
      simp only [List.map_cons, List.map_nil] at hr8
      refine seg cfg4L_ok mixed PanicFree.body 1000 [] [] hr8 (by first | trivial | exact HpRep.nil | assumption) (by kernel_rfl) fun s_ hs_ => ?_
      simp (maxSteps := 10000000) [SX.vc, SX.stop, SX.contS, SX.contB, SX.contW, SX.contR, SX.contD, SX.sxStep, SX.stepPure, SX.stepNew, SX.stepStore, SX.stepKeep, SX.guardIx, SX.evOp, SX.opd, SX.opds, SX.optOpd, SX.look, SX.putS, SX.gobs, SX.AllP, SX.leave, SX.lookC, SX.lookB, SX.lookT, SX.lookN, SX.findK, SX.evBuiltin, SX.ints, SX.foldI, SX.evBin, SX.evInt, SX.evStr, SX.evEq, SX.arith, SX.evLoad, SX.shapeUp, SX.evFieldAddr, SX.evField, SX.evIndexAddr, SX.evIndex, SX.evFill, SX.evBuild, SX.szs, SX.cellsV, SX.evNew, SX.evStore, SX.spliceL, SX.SV.cells, SX.evConv, SX.evSlice, SX.bnd, SX.evNil, SX.evUn, SX.evPick, SX.pickOpd, SX.popTo, SX.cnd, SX.env0, SX.TD.isAgg, SX.TD.isIface, SX.tails, SX.NotAgg, SX.evLookup, SX.evConvH, SX.evPtrEq, SX.isCells, Go.Value.cells, cfg4L, cfg4, vx32]
      refine ⟨by (unfold SX.Ob; first | trivial | omega | ((try simp only [SX.inK]); (try simp [SX.den, SX.IsU8, *]); (try omega))), ?_⟩
      intro a9 w9 hr9 _
      have hb9 : Below w8.heap.size w8 w9 := hr9.keeps.toBelow
      exact post_inv fun v hv => hI.put hTn hTf hTl T12_mono (i := 0) rfl hv hr9.env.2.1 (slotOf hr9 rfl) (KeepsTo.below hb9 _) (by rw [show u12 (listed.setIfInBounds 0 true) = u12 listed from by unfold u12; rw [b2i_ne (by omega), b2i_ne (by omega), b2i_ne (by omega), b2i_ne (by omega)]]; exact (hI.tab.keep hb9)) (by first | rfl | simp [eqv, den])
    · cases ho
      obtain ⟨_, s46, rfl⟩ := hI.sp 0 _ _ rfl (hd ⟨0, .data⟩ (by simp) rfl)
      have hr8 := mk0 (w := w8) (M := []) hI.size hI.defs [(46, .v (.bool true))] [] trivial (by
        intro e he
        simp only [List.mem_cons, List.not_mem_nil, or_false] at he
        rcases he with rfl
        · exact s46
        )
      simp only [List.map_cons, List.map_nil] at hr8
      refine seg cfg4L_ok mixed PanicFree.body 1000 [] [] hr8 (by first | trivial | exact HpRep.nil | assumption) (by kernel_rfl) fun s_ hs_ => ?_
      simp (maxSteps := 10000000) [SX.vc, SX.stop, SX.contS, SX.contB, SX.contW, SX.contR, SX.contD, SX.sxStep, SX.stepPure, SX.stepNew, SX.stepStore, SX.stepKeep, SX.guardIx, SX.evOp, SX.opd, SX.opds, SX.optOpd, SX.look, SX.putS, SX.gobs, SX.AllP, SX.leave, SX.lookC, SX.lookB, SX.lookT, SX.lookN, SX.findK, SX.evBuiltin, SX.ints, SX.foldI, SX.evBin, SX.evInt, SX.evStr, SX.evEq, SX.arith, SX.evLoad, SX.shapeUp, SX.evFieldAddr, SX.evField, SX.evIndexAddr, SX.evIndex, SX.evFill, SX.evBuild, SX.szs, SX.cellsV, SX.evNew, SX.evStore, SX.spliceL, SX.SV.cells, SX.evConv, SX.evSlice, SX.bnd, SX.evNil, SX.evUn, SX.evPick, SX.pickOpd, SX.popTo, SX.cnd, SX.env0, SX.TD.isAgg, SX.TD.isIface, SX.tails, SX.NotAgg, SX.evLookup, SX.evConvH, SX.evPtrEq, SX.isCells, Go.Value.cells, cfg4L, cfg4, vx32]
      refine ⟨by (unfold SX.Ob; first | trivial | omega | ((try simp only [SX.inK]); (try simp [SX.den, SX.IsU8, *]); (try omega))), ?_⟩
      intro a9 w9 hr9 _
      have hb9 : Below w8.heap.size w8 w9 := hr9.keeps.toBelow
      exact post_inv fun v hv => hI.put hTn hTf hTl T12_mono (i := 1) rfl hv hr9.env.2.1 (slotOf hr9 rfl) (KeepsTo.below hb9 _) (by rw [show u12 (listed.setIfInBounds 1 true) = u12 listed from by unfold u12; rw [b2i_ne (by omega), b2i_ne (by omega), b2i_ne (by omega), b2i_ne (by omega)]]; exact (hI.tab.keep hb9)) (by first | rfl | simp [eqv, den])
    · cases ho
      obtain ⟨_, s47, rfl⟩ := hI.sp 1 _ _ rfl (hd ⟨1, .guard⟩ (by simp) rfl)
      have hr8 := mk0 (w := w8) (M := []) hI.size hI.defs [(47, .v (.bool true)), (11, .v (.pointer (some ⟨b, 0, none⟩)))] [] trivial (by
        intro e he
        simp only [List.mem_cons, List.not_mem_nil, or_false] at he
        rcases he with rfl | rfl
        · exact s47
        · exact h11
        )
      simp only [List.map_cons, List.map_nil] at hr8
      refine seg cfg4L_ok mixed PanicFree.body 1000 [] [(47, true)] hr8 (by first | trivial | exact HpRep.nil | assumption) (by kernel_rfl) fun s_ hs_ => ?_
      simp (maxSteps := 10000000) [SX.vc, SX.stop, SX.contS, SX.contB, SX.contW, SX.contR, SX.contD, SX.sxStep, SX.stepPure, SX.stepNew, SX.stepStore, SX.stepKeep, SX.guardIx, SX.evOp, SX.opd, SX.opds, SX.optOpd, SX.look, SX.putS, SX.gobs, SX.AllP, SX.leave, SX.lookC, SX.lookB, SX.lookT, SX.lookN, SX.findK, SX.evBuiltin, SX.ints, SX.foldI, SX.evBin, SX.evInt, SX.evStr, SX.evEq, SX.arith, SX.evLoad, SX.shapeUp, SX.evFieldAddr, SX.evField, SX.evIndexAddr, SX.evIndex, SX.evFill, SX.evBuild, SX.szs, SX.cellsV, SX.evNew, SX.evStore, SX.spliceL, SX.SV.cells, SX.evConv, SX.evSlice, SX.bnd, SX.evNil, SX.evUn, SX.evPick, SX.pickOpd, SX.popTo, SX.cnd, SX.env0, SX.TD.isAgg, SX.TD.isIface, SX.tails, SX.NotAgg, SX.evLookup, SX.evConvH, SX.evPtrEq, SX.isCells, Go.Value.cells, cfg4L, cfg4, vx32]
      refine ⟨by (unfold SX.Ob; first | trivial | omega | ((try simp only [SX.inK]); (try simp [SX.den, SX.IsU8, *]); (try omega))), ?_⟩
      intro a9 w9 hr9 _
      have hb9 : Below w8.heap.size w8 w9 := hr9.keeps.toBelow
      exact post_inv fun v hv => hI.put hTn hTf hTl T12_mono (i := 2) rfl hv hr9.env.2.1 (slotOf hr9 rfl) (KeepsTo.below hb9 _) (by rw [show u12 (listed.setIfInBounds 2 true) = u12 listed from by unfold u12; rw [b2i_ne (by omega), b2i_ne (by omega), b2i_ne (by omega), b2i_ne (by omega)]]; exact (hI.tab.keep hb9)) (by first | rfl | simp [eqv, den])
    · cases ho
      obtain ⟨_, s47, rfl⟩ := hI.sp 1 _ _ rfl (hd ⟨1, .guard⟩ (by simp) rfl)
      have hr8 := mk0 (w := w8) (M := []) hI.size hI.defs [(47, .v (.bool true)), (9, .v (.slice ax k cx))] [] trivial (by
        intro e he
        simp only [List.mem_cons, List.not_mem_nil, or_false] at he
        rcases he with rfl | rfl
        · exact s47
        · exact h09
        )
      simp only [List.map_cons, List.map_nil] at hr8
      refine seg cfg4L_ok mixed PanicFree.body 1000 [] [(47, true)] hr8 (by first | trivial | exact HpRep.nil | assumption) (by kernel_rfl) fun s_ hs_ => ?_
      simp (maxSteps := 10000000) [SX.vc, SX.stop, SX.contS, SX.contB, SX.contW, SX.contR, SX.contD, SX.sxStep, SX.stepPure, SX.stepNew, SX.stepStore, SX.stepKeep, SX.guardIx, SX.evOp, SX.opd, SX.opds, SX.optOpd, SX.look, SX.putS, SX.gobs, SX.AllP, SX.leave, SX.lookC, SX.lookB, SX.lookT, SX.lookN, SX.findK, SX.evBuiltin, SX.ints, SX.foldI, SX.evBin, SX.evInt, SX.evStr, SX.evEq, SX.arith, SX.evLoad, SX.shapeUp, SX.evFieldAddr, SX.evField, SX.evIndexAddr, SX.evIndex, SX.evFill, SX.evBuild, SX.szs, SX.cellsV, SX.evNew, SX.evStore, SX.spliceL, SX.SV.cells, SX.evConv, SX.evSlice, SX.bnd, SX.evNil, SX.evUn, SX.evPick, SX.pickOpd, SX.popTo, SX.cnd, SX.env0, SX.TD.isAgg, SX.TD.isIface, SX.tails, SX.NotAgg, SX.evLookup, SX.evConvH, SX.evPtrEq, SX.isCells, Go.Value.cells, cfg4L, cfg4, vx32]
      refine ⟨by (unfold SX.Ob; first | trivial | omega | ((try simp only [SX.inK]); (try simp [SX.den, SX.IsU8, *]); (try omega))), ?_⟩
      intro a9 w9 hr9 _
      have hb9 : Below w8.heap.size w8 w9 := hr9.keeps.toBelow
      exact post_inv fun v hv => hI.put hTn hTf hTl T12_mono (i := 3) rfl hv hr9.env.2.1 (slotOf hr9 rfl) (KeepsTo.below hb9 _) (by rw [show u12 (listed.setIfInBounds 3 true) = u12 listed from by unfold u12; rw [b2i_ne (by omega), b2i_ne (by omega), b2i_ne (by omega), b2i_ne (by omega)]]; exact (hI.tab.keep hb9)) (by first | rfl | simp [eqv, den])
    · cases ho
      obtain ⟨_, s47, rfl⟩ := hI.sp 1 _ _ rfl (hd ⟨1, .guard⟩ (by simp) rfl)
      obtain ⟨_, s49, rfl⟩ := hI.sp 3 _ _ rfl (hd ⟨3, .data⟩ (by simp) rfl)
      have hr8 := mk0 (w := w8) (M := []) hI.size hI.defs [(47, .v (.bool true)), (49, .v (.slice ax k cx))] [] trivial (by
        intro e he
        simp only [List.mem_cons, List.not_mem_nil, or_false] at he
        rcases he with rfl | rfl
        · exact s47
        · exact s49
        )
      simp only [List.map_cons, List.map_nil] at hr8
      refine seg cfg4L_ok mixed PanicFree.body 1000 [] [(47, true)] hr8 (by first | trivial | exact HpRep.nil | assumption) (by kernel_rfl) fun s_ hs_ => ?_
      simp (maxSteps := 10000000) [SX.vc, SX.stop, SX.contS, SX.contB, SX.contW, SX.contR, SX.contD, SX.sxStep, SX.stepPure, SX.stepNew, SX.stepStore, SX.stepKeep, SX.guardIx, SX.evOp, SX.opd, SX.opds, SX.optOpd, SX.look, SX.putS, SX.gobs, SX.AllP, SX.leave, SX.lookC, SX.lookB, SX.lookT, SX.lookN, SX.findK, SX.evBuiltin, SX.ints, SX.foldI, SX.evBin, SX.evInt, SX.evStr, SX.evEq, SX.arith, SX.evLoad, SX.shapeUp, SX.evFieldAddr, SX.evField, SX.evIndexAddr, SX.evIndex, SX.evFill, SX.evBuild, SX.szs, SX.cellsV, SX.evNew, SX.evStore, SX.spliceL, SX.SV.cells, SX.evConv, SX.evSlice, SX.bnd, SX.evNil, SX.evUn, SX.evPick, SX.pickOpd, SX.popTo, SX.cnd, SX.env0, SX.TD.isAgg, SX.TD.isIface, SX.tails, SX.NotAgg, SX.evLookup, SX.evConvH, SX.evPtrEq, SX.isCells, Go.Value.cells, cfg4L, cfg4]
      refine ⟨by (unfold SX.Ob; first | trivial | omega | ((try simp only [SX.inK]); (try simp [SX.den, SX.IsU8, *]); (try omega))), ?_⟩
      intro a9 w9 hr9 _
      have hb9 : Below w8.heap.size w8 w9 := hr9.keeps.toBelow
      exact post_inv fun v hv => hI.put hTn hTf hTl T12_mono (i := 4) rfl hv hr9.env.2.1 (slotOf hr9 rfl) (KeepsTo.below hb9 _) (by rw [show u12 (listed.setIfInBounds 4 true) = u12 listed from by unfold u12; rw [b2i_ne (by omega), b2i_ne (by omega), b2i_ne (by omega), b2i_ne (by omega)]]; exact (hI.tab.keep hb9)) (LV.one (Nat.le_refl _) (by omega) hr9.all.1.1 rfl ((hX7.keep hwk).below hb9) (by omega))
    · cases ho
      obtain ⟨_, s47, rfl⟩ := hI.sp 1 _ _ rfl (hd ⟨1, .chain⟩ (by simp) rfl)
      obtain ⟨_, s48, rfl⟩ := hI.sp 2 _ _ rfl (hd ⟨2, .data⟩ (by simp) rfl)
      obtain ⟨v50, s50, l50⟩ := hI.sp 4 _ _ rfl (hd ⟨4, .data⟩ (by simp) rfl)
      obtain ⟨x50, y50, rfl⟩ := LV.slice l50
      have hr8 := mk0 (w := w8) (M := [b]) hI.size hI.defs [(47, .v (.bool true)), (48, .v (.pointer (some ⟨b, 0, none⟩))), (50, .v (.slice x50 1 y50))] [] trivial (by
        intro e he
        simp only [List.mem_cons, List.not_mem_nil, or_false] at he
        rcases he with rfl | rfl | rfl
        · exact s47
        · exact s48
        · exact s50
        )
      simp only [List.map_cons, List.map_nil] at hr8
      have hu8 : 0 ≤ u12 listed ∧ u12 listed ≤ 4 := by have := b2i_in listed 5; have := b2i_in listed 11; have := b2i_in listed 17; have := b2i_in listed 24; unfold u12; omega
      refine post_call 11 [.v (.pointer (some ⟨b, 0, none⟩)), .v (.slice x50 1 y50)] hr8 (want47 rfl rfl s47) rfl (callable 11 Try.func11) (sum_ok w8 b _ hI.tab (by unfold inK; omega) _ 1 _ _ l50 (by omega)) ?_
      rintro e w9 ⟨rfl, hk9, hT9⟩
      refine ⟨_, rfl, ?_⟩
      exact fun ⟨v, hv⟩ => hI.put hTn hTf hTl T12_mono (i := 5) rfl hv hI.defs (putAt (by rw [hI.size]; omega)) hk9 (by rw [show u12 (listed.setIfInBounds 5 true) = u12 listed + 1 from by unfold u12; rw [b2i_eq hl, b2i_ne (by omega), b2i_ne (by omega), b2i_ne (by omega)]; omega]; exact hT9) (by rw [← hXX]; rfl)
    · cases ho
      obtain ⟨_, s47, rfl⟩ := hI.sp 1 _ _ rfl (hd ⟨1, .guard⟩ (by simp) rfl)
      have hr8 := mk0 (w := w8) (M := []) hI.size hI.defs [(47, .v (.bool true)), (11, .v (.pointer (some ⟨b, 0, none⟩)))] [] trivial (by
        intro e he
        simp only [List.mem_cons, List.not_mem_nil, or_false] at he
        rcases he with rfl | rfl
        · exact s47
        · exact h11
        )
      simp only [List.map_cons, List.map_nil] at hr8
      refine seg cfg4L_ok mixed PanicFree.body 1000 [] [(47, true)] hr8 (by first | trivial | exact HpRep.nil | assumption) (by kernel_rfl) fun s_ hs_ => ?_
      simp (maxSteps := 10000000) [SX.vc, SX.stop, SX.contS, SX.contB, SX.contW, SX.contR, SX.contD, SX.sxStep, SX.stepPure, SX.stepNew, SX.stepStore, SX.stepKeep, SX.guardIx, SX.evOp, SX.opd, SX.opds, SX.optOpd, SX.look, SX.putS, SX.gobs, SX.AllP, SX.leave, SX.lookC, SX.lookB, SX.lookT, SX.lookN, SX.findK, SX.evBuiltin, SX.ints, SX.foldI, SX.evBin, SX.evInt, SX.evStr, SX.evEq, SX.arith, SX.evLoad, SX.shapeUp, SX.evFieldAddr, SX.evField, SX.evIndexAddr, SX.evIndex, SX.evFill, SX.evBuild, SX.szs, SX.cellsV, SX.evNew, SX.evStore, SX.spliceL, SX.SV.cells, SX.evConv, SX.evSlice, SX.bnd, SX.evNil, SX.evUn, SX.evPick, SX.pickOpd, SX.popTo, SX.cnd, SX.env0, SX.TD.isAgg, SX.TD.isIface, SX.tails, SX.NotAgg, SX.evLookup, SX.evConvH, SX.evPtrEq, SX.isCells, Go.Value.cells, cfg4L, cfg4, vx32]
      refine ⟨by (unfold SX.Ob; first | trivial | omega | ((try simp only [SX.inK]); (try simp [SX.den, SX.IsU8, *]); (try omega))), ?_⟩
      intro a9 w9 hr9 _
      have hb9 : Below w8.heap.size w8 w9 := hr9.keeps.toBelow
      exact post_inv fun v hv => hI.put hTn hTf hTl T12_mono (i := 6) rfl hv hr9.env.2.1 (slotOf hr9 rfl) (KeepsTo.below hb9 _) (by rw [show u12 (listed.setIfInBounds 6 true) = u12 listed from by unfold u12; rw [b2i_ne (by omega), b2i_ne (by omega), b2i_ne (by omega), b2i_ne (by omega)]]; exact (hI.tab.keep hb9)) (by first | rfl | simp [eqv, den])
    · cases ho
      obtain ⟨_, s47, rfl⟩ := hI.sp 1 _ _ rfl (hd ⟨1, .guard⟩ (by simp) rfl)
      have hr8 := mk0 (w := w8) (M := []) hI.size hI.defs [(47, .v (.bool true)), (0, .v (.slice aa la ca))] [] trivial (by
        intro e he
        simp only [List.mem_cons, List.not_mem_nil, or_false] at he
        rcases he with rfl | rfl
        · exact s47
        · exact h00
        )
      simp only [List.map_cons, List.map_nil] at hr8
      refine seg cfg4L_ok mixed PanicFree.body 1000 [] [(47, true)] hr8 (by first | trivial | exact HpRep.nil | assumption) (by kernel_rfl) fun s_ hs_ => ?_
      simp (maxSteps := 10000000) [SX.vc, SX.stop, SX.contS, SX.contB, SX.contW, SX.contR, SX.contD, SX.sxStep, SX.stepPure, SX.stepNew, SX.stepStore, SX.stepKeep, SX.guardIx, SX.evOp, SX.opd, SX.opds, SX.optOpd, SX.look, SX.putS, SX.gobs, SX.AllP, SX.leave, SX.lookC, SX.lookB, SX.lookT, SX.lookN, SX.findK, SX.evBuiltin, SX.ints, SX.foldI, SX.evBin, SX.evInt, SX.evStr, SX.evEq, SX.arith, SX.evLoad, SX.shapeUp, SX.evFieldAddr, SX.evField, SX.evIndexAddr, SX.evIndex, SX.evFill, SX.evBuild, SX.szs, SX.cellsV, SX.evNew, SX.evStore, SX.spliceL, SX.SV.cells, SX.evConv, SX.evSlice, SX.bnd, SX.evNil, SX.evUn, SX.evPick, SX.pickOpd, SX.popTo, SX.cnd, SX.env0, SX.TD.isAgg, SX.TD.isIface, SX.tails, SX.NotAgg, SX.evLookup, SX.evConvH, SX.evPtrEq, SX.isCells, Go.Value.cells, cfg4L, cfg4, vx32]
      refine ⟨by (unfold SX.Ob; first | trivial | omega | ((try simp only [SX.inK]); (try simp [SX.den, SX.IsU8, *]); (try omega))), ?_⟩
      intro a9 w9 hr9 _
      have hb9 : Below w8.heap.size w8 w9 := hr9.keeps.toBelow
      exact post_inv fun v hv => hI.put hTn hTf hTl T12_mono (i := 7) rfl hv hr9.env.2.1 (slotOf hr9 rfl) (KeepsTo.below hb9 _) (by rw [show u12 (listed.setIfInBounds 7 true) = u12 listed from by unfold u12; rw [b2i_ne (by omega), b2i_ne (by omega), b2i_ne (by omega), b2i_ne (by omega)]]; exact (hI.tab.keep hb9)) (by first | rfl | simp [eqv, den])
    · cases ho
      obtain ⟨_, s47, rfl⟩ := hI.sp 1 _ _ rfl (hd ⟨1, .guard⟩ (by simp) rfl)
      have hr8 := mk0 (w := w8) (M := []) hI.size hI.defs [(47, .v (.bool true)), (8, .v (.int .i64 k))] [] trivial (by
        intro e he
        simp only [List.mem_cons, List.not_mem_nil, or_false] at he
        rcases he with rfl | rfl
        · exact s47
        · exact h08
        )
      simp only [List.map_cons, List.map_nil] at hr8
      refine seg cfg4L_ok mixed PanicFree.body 1000 [] [(47, true)] hr8 (by first | trivial | exact HpRep.nil | assumption) (by kernel_rfl) fun s_ hs_ => ?_
      simp (maxSteps := 10000000) [SX.vc, SX.stop, SX.contS, SX.contB, SX.contW, SX.contR, SX.contD, SX.sxStep, SX.stepPure, SX.stepNew, SX.stepStore, SX.stepKeep, SX.guardIx, SX.evOp, SX.opd, SX.opds, SX.optOpd, SX.look, SX.putS, SX.gobs, SX.AllP, SX.leave, SX.lookC, SX.lookB, SX.lookT, SX.lookN, SX.findK, SX.evBuiltin, SX.ints, SX.foldI, SX.evBin, SX.evInt, SX.evStr, SX.evEq, SX.arith, SX.evLoad, SX.shapeUp, SX.evFieldAddr, SX.evField, SX.evIndexAddr, SX.evIndex, SX.evFill, SX.evBuild, SX.szs, SX.cellsV, SX.evNew, SX.evStore, SX.spliceL, SX.SV.cells, SX.evConv, SX.evSlice, SX.bnd, SX.evNil, SX.evUn, SX.evPick, SX.pickOpd, SX.popTo, SX.cnd, SX.env0, SX.TD.isAgg, SX.TD.isIface, SX.tails, SX.NotAgg, SX.evLookup, SX.evConvH, SX.evPtrEq, SX.isCells, Go.Value.cells, cfg4L, cfg4, vx32]
      refine ⟨by (unfold SX.Ob; first | trivial | omega | ((try simp only [SX.inK]); (try simp [SX.den, SX.IsU8, *]); (try omega))), ?_⟩
      intro a9 w9 hr9 _
      have hb9 : Below w8.heap.size w8 w9 := hr9.keeps.toBelow
      exact post_inv fun v hv => hI.put hTn hTf hTl T12_mono (i := 8) rfl hv hr9.env.2.1 (slotOf hr9 rfl) (KeepsTo.below hb9 _) (by rw [show u12 (listed.setIfInBounds 8 true) = u12 listed from by unfold u12; rw [b2i_ne (by omega), b2i_ne (by omega), b2i_ne (by omega), b2i_ne (by omega)]]; exact (hI.tab.keep hb9)) (by first | rfl | simp [eqv, den])
    · cases ho
      obtain ⟨_, s47, rfl⟩ := hI.sp 1 _ _ rfl (hd ⟨1, .guard⟩ (by simp) rfl)
      obtain ⟨_, s53, rfl⟩ := hI.sp 7 _ _ rfl (hd ⟨7, .data⟩ (by simp) rfl)
      obtain ⟨_, s54, rfl⟩ := hI.sp 8 _ _ rfl (hd ⟨8, .data⟩ (by simp) rfl)
      have hr8 := mk0 (w := w8) (M := []) hI.size hI.defs [(47, .v (.bool true)), (53, .v (.slice aa la ca)), (54, .v (.int .i64 k))] [] trivial (by
        intro e he
        simp only [List.mem_cons, List.not_mem_nil, or_false] at he
        rcases he with rfl | rfl | rfl
        · exact s47
        · exact s53
        · exact s54
        )
      simp only [List.map_cons, List.map_nil] at hr8
      refine post_stepG (want47 rfl rfl s47) (exec_slice_to (st := _) (ad := aa) (len := la) (cap := ca) (n := k) (hr8.env.same rfl rfl rfl rfl) rfl rfl rfl (by omega) hsa) ?_
      exact fun ⟨v, hv⟩ => hI.put hTn hTf hTl T12_mono (i := 9) rfl hv hI.defs (putAt (by rw [hI.size]; omega)) (KeepsTo.refl w8 _) (by rw [show u12 (listed.setIfInBounds 9 true) = u12 listed from by unfold u12; rw [b2i_ne (by omega), b2i_ne (by omega), b2i_ne (by omega), b2i_ne (by omega)]]; exact hI.tab) rfl
    · cases ho
      obtain ⟨_, s47, rfl⟩ := hI.sp 1 _ _ rfl (hd ⟨1, .guard⟩ (by simp) rfl)
      obtain ⟨_, s55, rfl⟩ := hI.sp 9 _ _ rfl (hd ⟨9, .data⟩ (by simp) rfl)
      have hr8 := mk0 (w := w8) (M := []) hI.size hI.defs [(47, .v (.bool true)), (55, .v (.slice aa k ca))] [] trivial (by
        intro e he
        simp only [List.mem_cons, List.not_mem_nil, or_false] at he
        rcases he with rfl | rfl
        · exact s47
        · exact s55
        )
      simp only [List.map_cons, List.map_nil] at hr8
      refine seg cfg4L_ok mixed PanicFree.body 1000 [] [(47, true)] hr8 (by first | trivial | exact HpRep.nil | assumption) (by kernel_rfl) fun s_ hs_ => ?_
      simp (maxSteps := 10000000) [SX.vc, SX.stop, SX.contS, SX.contB, SX.contW, SX.contR, SX.contD, SX.sxStep, SX.stepPure, SX.stepNew, SX.stepStore, SX.stepKeep, SX.guardIx, SX.evOp, SX.opd, SX.opds, SX.optOpd, SX.look, SX.putS, SX.gobs, SX.AllP, SX.leave, SX.lookC, SX.lookB, SX.lookT, SX.lookN, SX.findK, SX.evBuiltin, SX.ints, SX.foldI, SX.evBin, SX.evInt, SX.evStr, SX.evEq, SX.arith, SX.evLoad, SX.shapeUp, SX.evFieldAddr, SX.evField, SX.evIndexAddr, SX.evIndex, SX.evFill, SX.evBuild, SX.szs, SX.cellsV, SX.evNew, SX.evStore, SX.spliceL, SX.SV.cells, SX.evConv, SX.evSlice, SX.bnd, SX.evNil, SX.evUn, SX.evPick, SX.pickOpd, SX.popTo, SX.cnd, SX.env0, SX.TD.isAgg, SX.TD.isIface, SX.tails, SX.NotAgg, SX.evLookup, SX.evConvH, SX.evPtrEq, SX.isCells, Go.Value.cells, cfg4L, cfg4]
      refine ⟨by (unfold SX.Ob; first | trivial | omega | ((try simp only [SX.inK]); (try simp [SX.den, SX.IsU8, *]); (try omega))), ?_⟩
      intro a9 w9 hr9 _
      have hb9 : Below w8.heap.size w8 w9 := hr9.keeps.toBelow
      exact post_inv fun v hv => hI.put hTn hTf hTl T12_mono (i := 10) rfl hv hr9.env.2.1 (slotOf hr9 rfl) (KeepsTo.below hb9 _) (by rw [show u12 (listed.setIfInBounds 10 true) = u12 listed from by unfold u12; rw [b2i_ne (by omega), b2i_ne (by omega), b2i_ne (by omega), b2i_ne (by omega)]]; exact (hI.tab.keep hb9)) (LV.one (Nat.le_refl _) (by omega) hr9.all.1.1 rfl ((hA7.keep hwk).below hb9) (by omega))
    · cases ho
      obtain ⟨_, s47, rfl⟩ := hI.sp 1 _ _ rfl (hd ⟨1, .guard⟩ (by simp) rfl)
      obtain ⟨_, s52, rfl⟩ := hI.sp 6 _ _ rfl (hd ⟨6, .data⟩ (by simp) rfl)
      obtain ⟨v56, s56, l56⟩ := hI.sp 10 _ _ rfl (hd ⟨10, .data⟩ (by simp) rfl)
      obtain ⟨x56, y56, rfl⟩ := LV.slice l56
      have hr8 := mk0 (w := w8) (M := [b]) hI.size hI.defs [(47, .v (.bool true)), (52, .v (.pointer (some ⟨b, 0, none⟩))), (56, .v (.slice x56 1 y56))] [] trivial (by
        intro e he
        simp only [List.mem_cons, List.not_mem_nil, or_false] at he
        rcases he with rfl | rfl | rfl
        · exact s47
        · exact s52
        · exact s56
        )
      simp only [List.map_cons, List.map_nil] at hr8
      have hu8 : 0 ≤ u12 listed ∧ u12 listed ≤ 4 := by have := b2i_in listed 5; have := b2i_in listed 11; have := b2i_in listed 17; have := b2i_in listed 24; unfold u12; omega
      refine post_call 11 [.v (.pointer (some ⟨b, 0, none⟩)), .v (.slice x56 1 y56)] hr8 (want47 rfl rfl s47) rfl (callable 11 Try.func11) (sum_ok w8 b _ hI.tab (by unfold inK; omega) _ 1 _ _ l56 (by omega)) ?_
      rintro e w9 ⟨rfl, hk9, hT9⟩
      refine ⟨_, rfl, ?_⟩
      exact fun ⟨v, hv⟩ => hI.put hTn hTf hTl T12_mono (i := 11) rfl hv hI.defs (putAt (by rw [hI.size]; omega)) hk9 (by rw [show u12 (listed.setIfInBounds 11 true) = u12 listed + 1 from by unfold u12; rw [b2i_ne (by omega), b2i_eq hl, b2i_ne (by omega), b2i_ne (by omega)]; omega]; exact hT9) (by rw [hAA]; rfl)
    · cases ho
      obtain ⟨_, s47, rfl⟩ := hI.sp 1 _ _ rfl (hd ⟨1, .guard⟩ (by simp) rfl)
      have hr8 := mk0 (w := w8) (M := []) hI.size hI.defs [(47, .v (.bool true)), (11, .v (.pointer (some ⟨b, 0, none⟩)))] [] trivial (by
        intro e he
        simp only [List.mem_cons, List.not_mem_nil, or_false] at he
        rcases he with rfl | rfl
        · exact s47
        · exact h11
        )
      simp only [List.map_cons, List.map_nil] at hr8
      refine seg cfg4L_ok mixed PanicFree.body 1000 [] [(47, true)] hr8 (by first | trivial | exact HpRep.nil | assumption) (by kernel_rfl) fun s_ hs_ => ?_
      simp (maxSteps := 10000000) [SX.vc, SX.stop, SX.contS, SX.contB, SX.contW, SX.contR, SX.contD, SX.sxStep, SX.stepPure, SX.stepNew, SX.stepStore, SX.stepKeep, SX.guardIx, SX.evOp, SX.opd, SX.opds, SX.optOpd, SX.look, SX.putS, SX.gobs, SX.AllP, SX.leave, SX.lookC, SX.lookB, SX.lookT, SX.lookN, SX.findK, SX.evBuiltin, SX.ints, SX.foldI, SX.evBin, SX.evInt, SX.evStr, SX.evEq, SX.arith, SX.evLoad, SX.shapeUp, SX.evFieldAddr, SX.evField, SX.evIndexAddr, SX.evIndex, SX.evFill, SX.evBuild, SX.szs, SX.cellsV, SX.evNew, SX.evStore, SX.spliceL, SX.SV.cells, SX.evConv, SX.evSlice, SX.bnd, SX.evNil, SX.evUn, SX.evPick, SX.pickOpd, SX.popTo, SX.cnd, SX.env0, SX.TD.isAgg, SX.TD.isIface, SX.tails, SX.NotAgg, SX.evLookup, SX.evConvH, SX.evPtrEq, SX.isCells, Go.Value.cells, cfg4L, cfg4, vx32]
      refine ⟨by (unfold SX.Ob; first | trivial | omega | ((try simp only [SX.inK]); (try simp [SX.den, SX.IsU8, *]); (try omega))), ?_⟩
      intro a9 w9 hr9 _
      have hb9 : Below w8.heap.size w8 w9 := hr9.keeps.toBelow
      exact post_inv fun v hv => hI.put hTn hTf hTl T12_mono (i := 12) rfl hv hr9.env.2.1 (slotOf hr9 rfl) (KeepsTo.below hb9 _) (by rw [show u12 (listed.setIfInBounds 12 true) = u12 listed from by unfold u12; rw [b2i_ne (by omega), b2i_ne (by omega), b2i_ne (by omega), b2i_ne (by omega)]]; exact (hI.tab.keep hb9)) (by first | rfl | simp [eqv, den])
    · cases ho
      obtain ⟨_, s47, rfl⟩ := hI.sp 1 _ _ rfl (hd ⟨1, .guard⟩ (by simp) rfl)
      have hr8 := mk0 (w := w8) (M := []) hI.size hI.defs [(47, .v (.bool true)), (1, .v (.slice ab lb cb))] [] trivial (by
        intro e he
        simp only [List.mem_cons, List.not_mem_nil, or_false] at he
        rcases he with rfl | rfl
        · exact s47
        · exact h01
        )
      simp only [List.map_cons, List.map_nil] at hr8
      refine seg cfg4L_ok mixed PanicFree.body 1000 [] [(47, true)] hr8 (by first | trivial | exact HpRep.nil | assumption) (by kernel_rfl) fun s_ hs_ => ?_
      simp (maxSteps := 10000000) [SX.vc, SX.stop, SX.contS, SX.contB, SX.contW, SX.contR, SX.contD, SX.sxStep, SX.stepPure, SX.stepNew, SX.stepStore, SX.stepKeep, SX.guardIx, SX.evOp, SX.opd, SX.opds, SX.optOpd, SX.look, SX.putS, SX.gobs, SX.AllP, SX.leave, SX.lookC, SX.lookB, SX.lookT, SX.lookN, SX.findK, SX.evBuiltin, SX.ints, SX.foldI, SX.evBin, SX.evInt, SX.evStr, SX.evEq, SX.arith, SX.evLoad, SX.shapeUp, SX.evFieldAddr, SX.evField, SX.evIndexAddr, SX.evIndex, SX.evFill, SX.evBuild, SX.szs, SX.cellsV, SX.evNew, SX.evStore, SX.spliceL, SX.SV.cells, SX.evConv, SX.evSlice, SX.bnd, SX.evNil, SX.evUn, SX.evPick, SX.pickOpd, SX.popTo, SX.cnd, SX.env0, SX.TD.isAgg, SX.TD.isIface, SX.tails, SX.NotAgg, SX.evLookup, SX.evConvH, SX.evPtrEq, SX.isCells, Go.Value.cells, cfg4L, cfg4, vx32]
      refine ⟨by (unfold SX.Ob; first | trivial | omega | ((try simp only [SX.inK]); (try simp [SX.den, SX.IsU8, *]); (try omega))), ?_⟩
      intro a9 w9 hr9 _
      have hb9 : Below w8.heap.size w8 w9 := hr9.keeps.toBelow
      exact post_inv fun v hv => hI.put hTn hTf hTl T12_mono (i := 13) rfl hv hr9.env.2.1 (slotOf hr9 rfl) (KeepsTo.below hb9 _) (by rw [show u12 (listed.setIfInBounds 13 true) = u12 listed from by unfold u12; rw [b2i_ne (by omega), b2i_ne (by omega), b2i_ne (by omega), b2i_ne (by omega)]]; exact (hI.tab.keep hb9)) (by first | rfl | simp [eqv, den])
    · cases ho
      obtain ⟨_, s47, rfl⟩ := hI.sp 1 _ _ rfl (hd ⟨1, .guard⟩ (by simp) rfl)
      have hr8 := mk0 (w := w8) (M := []) hI.size hI.defs [(47, .v (.bool true)), (8, .v (.int .i64 k))] [] trivial (by
        intro e he
        simp only [List.mem_cons, List.not_mem_nil, or_false] at he
        rcases he with rfl | rfl
        · exact s47
        · exact h08
        )
      simp only [List.map_cons, List.map_nil] at hr8
      refine seg cfg4L_ok mixed PanicFree.body 1000 [] [(47, true)] hr8 (by first | trivial | exact HpRep.nil | assumption) (by kernel_rfl) fun s_ hs_ => ?_
      simp (maxSteps := 10000000) [SX.vc, SX.stop, SX.contS, SX.contB, SX.contW, SX.contR, SX.contD, SX.sxStep, SX.stepPure, SX.stepNew, SX.stepStore, SX.stepKeep, SX.guardIx, SX.evOp, SX.opd, SX.opds, SX.optOpd, SX.look, SX.putS, SX.gobs, SX.AllP, SX.leave, SX.lookC, SX.lookB, SX.lookT, SX.lookN, SX.findK, SX.evBuiltin, SX.ints, SX.foldI, SX.evBin, SX.evInt, SX.evStr, SX.evEq, SX.arith, SX.evLoad, SX.shapeUp, SX.evFieldAddr, SX.evField, SX.evIndexAddr, SX.evIndex, SX.evFill, SX.evBuild, SX.szs, SX.cellsV, SX.evNew, SX.evStore, SX.spliceL, SX.SV.cells, SX.evConv, SX.evSlice, SX.bnd, SX.evNil, SX.evUn, SX.evPick, SX.pickOpd, SX.popTo, SX.cnd, SX.env0, SX.TD.isAgg, SX.TD.isIface, SX.tails, SX.NotAgg, SX.evLookup, SX.evConvH, SX.evPtrEq, SX.isCells, Go.Value.cells, cfg4L, cfg4, vx32]
      refine ⟨by (unfold SX.Ob; first | trivial | omega | ((try simp only [SX.inK]); (try simp [SX.den, SX.IsU8, *]); (try omega))), ?_⟩
      intro a9 w9 hr9 _
      have hb9 : Below w8.heap.size w8 w9 := hr9.keeps.toBelow
      exact post_inv fun v hv => hI.put hTn hTf hTl T12_mono (i := 14) rfl hv hr9.env.2.1 (slotOf hr9 rfl) (KeepsTo.below hb9 _) (by rw [show u12 (listed.setIfInBounds 14 true) = u12 listed from by unfold u12; rw [b2i_ne (by omega), b2i_ne (by omega), b2i_ne (by omega), b2i_ne (by omega)]]; exact (hI.tab.keep hb9)) (by first | rfl | simp [eqv, den])
    · cases ho
      obtain ⟨_, s47, rfl⟩ := hI.sp 1 _ _ rfl (hd ⟨1, .guard⟩ (by simp) rfl)
      obtain ⟨_, s59, rfl⟩ := hI.sp 13 _ _ rfl (hd ⟨13, .data⟩ (by simp) rfl)
      obtain ⟨_, s60, rfl⟩ := hI.sp 14 _ _ rfl (hd ⟨14, .data⟩ (by simp) rfl)
      have hr8 := mk0 (w := w8) (M := []) hI.size hI.defs [(47, .v (.bool true)), (59, .v (.slice ab lb cb)), (60, .v (.int .i64 k))] [] trivial (by
        intro e he
        simp only [List.mem_cons, List.not_mem_nil, or_false] at he
        rcases he with rfl | rfl | rfl
        · exact s47
        · exact s59
        · exact s60
        )
      simp only [List.map_cons, List.map_nil] at hr8
      refine post_stepG (want47 rfl rfl s47) (exec_slice_to (st := _) (ad := ab) (len := lb) (cap := cb) (n := k) (hr8.env.same rfl rfl rfl rfl) rfl rfl rfl (by omega) hsb) ?_
      exact fun ⟨v, hv⟩ => hI.put hTn hTf hTl T12_mono (i := 15) rfl hv hI.defs (putAt (by rw [hI.size]; omega)) (KeepsTo.refl w8 _) (by rw [show u12 (listed.setIfInBounds 15 true) = u12 listed from by unfold u12; rw [b2i_ne (by omega), b2i_ne (by omega), b2i_ne (by omega), b2i_ne (by omega)]]; exact hI.tab) rfl
    · cases ho
      obtain ⟨_, s47, rfl⟩ := hI.sp 1 _ _ rfl (hd ⟨1, .guard⟩ (by simp) rfl)
      obtain ⟨_, s61, rfl⟩ := hI.sp 15 _ _ rfl (hd ⟨15, .data⟩ (by simp) rfl)
      have hr8 := mk0 (w := w8) (M := []) hI.size hI.defs [(47, .v (.bool true)), (61, .v (.slice ab k cb))] [] trivial (by
        intro e he
        simp only [List.mem_cons, List.not_mem_nil, or_false] at he
        rcases he with rfl | rfl
        · exact s47
        · exact s61
        )
      simp only [List.map_cons, List.map_nil] at hr8
      refine seg cfg4L_ok mixed PanicFree.body 1000 [] [(47, true)] hr8 (by first | trivial | exact HpRep.nil | assumption) (by kernel_rfl) fun s_ hs_ => ?_
      simp (maxSteps := 10000000) [SX.vc, SX.stop, SX.contS, SX.contB, SX.contW, SX.contR, SX.contD, SX.sxStep, SX.stepPure, SX.stepNew, SX.stepStore, SX.stepKeep, SX.guardIx, SX.evOp, SX.opd, SX.opds, SX.optOpd, SX.look, SX.putS, SX.gobs, SX.AllP, SX.leave, SX.lookC, SX.lookB, SX.lookT, SX.lookN, SX.findK, SX.evBuiltin, SX.ints, SX.foldI, SX.evBin, SX.evInt, SX.evStr, SX.evEq, SX.arith, SX.evLoad, SX.shapeUp, SX.evFieldAddr, SX.evField, SX.evIndexAddr, SX.evIndex, SX.evFill, SX.evBuild, SX.szs, SX.cellsV, SX.evNew, SX.evStore, SX.spliceL, SX.SV.cells, SX.evConv, SX.evSlice, SX.bnd, SX.evNil, SX.evUn, SX.evPick, SX.pickOpd, SX.popTo, SX.cnd, SX.env0, SX.TD.isAgg, SX.TD.isIface, SX.tails, SX.NotAgg, SX.evLookup, SX.evConvH, SX.evPtrEq, SX.isCells, Go.Value.cells, cfg4L, cfg4]
      refine ⟨by (unfold SX.Ob; first | trivial | omega | ((try simp only [SX.inK]); (try simp [SX.den, SX.IsU8, *]); (try omega))), ?_⟩
      intro a9 w9 hr9 _
      have hb9 : Below w8.heap.size w8 w9 := hr9.keeps.toBelow
      exact post_inv fun v hv => hI.put hTn hTf hTl T12_mono (i := 16) rfl hv hr9.env.2.1 (slotOf hr9 rfl) (KeepsTo.below hb9 _) (by rw [show u12 (listed.setIfInBounds 16 true) = u12 listed from by unfold u12; rw [b2i_ne (by omega), b2i_ne (by omega), b2i_ne (by omega), b2i_ne (by omega)]]; exact (hI.tab.keep hb9)) (LV.one (Nat.le_refl _) (by omega) hr9.all.1.1 rfl ((hB7.keep hwk).below hb9) (by omega))
    · cases ho
      obtain ⟨_, s47, rfl⟩ := hI.sp 1 _ _ rfl (hd ⟨1, .guard⟩ (by simp) rfl)
      obtain ⟨_, s58, rfl⟩ := hI.sp 12 _ _ rfl (hd ⟨12, .data⟩ (by simp) rfl)
      obtain ⟨v62, s62, l62⟩ := hI.sp 16 _ _ rfl (hd ⟨16, .data⟩ (by simp) rfl)
      obtain ⟨x62, y62, rfl⟩ := LV.slice l62
      have hr8 := mk0 (w := w8) (M := [b]) hI.size hI.defs [(47, .v (.bool true)), (58, .v (.pointer (some ⟨b, 0, none⟩))), (62, .v (.slice x62 1 y62))] [] trivial (by
        intro e he
        simp only [List.mem_cons, List.not_mem_nil, or_false] at he
        rcases he with rfl | rfl | rfl
        · exact s47
        · exact s58
        · exact s62
        )
      simp only [List.map_cons, List.map_nil] at hr8
      have hu8 : 0 ≤ u12 listed ∧ u12 listed ≤ 4 := by have := b2i_in listed 5; have := b2i_in listed 11; have := b2i_in listed 17; have := b2i_in listed 24; unfold u12; omega
      refine post_call 11 [.v (.pointer (some ⟨b, 0, none⟩)), .v (.slice x62 1 y62)] hr8 (want47 rfl rfl s47) rfl (callable 11 Try.func11) (sum_ok w8 b _ hI.tab (by unfold inK; omega) _ 1 _ _ l62 (by omega)) ?_
      rintro e w9 ⟨rfl, hk9, hT9⟩
      refine ⟨_, rfl, ?_⟩
      exact fun ⟨v, hv⟩ => hI.put hTn hTf hTl T12_mono (i := 17) rfl hv hI.defs (putAt (by rw [hI.size]; omega)) hk9 (by rw [show u12 (listed.setIfInBounds 17 true) = u12 listed + 1 from by unfold u12; rw [b2i_ne (by omega), b2i_ne (by omega), b2i_eq hl, b2i_ne (by omega)]; omega]; exact hT9) (by rw [hBB]; rfl)
    · cases ho
      obtain ⟨_, s47, rfl⟩ := hI.sp 1 _ _ rfl (hd ⟨1, .guard⟩ (by simp) rfl)
      obtain ⟨_, s57, rfl⟩ := hI.sp 11 _ _ rfl (hd ⟨11, .data⟩ (by simp) rfl)
      obtain ⟨_, s63, rfl⟩ := hI.sp 17 _ _ rfl (hd ⟨17, .data⟩ (by simp) rfl)
      have hr8 := mk0 (w := w8) (M := []) hI.size hI.defs [(47, .v (.bool true)), (57, .v (.int .u32 (rv A))), (63, .v (.int .u32 (rv B)))] [] trivial (by
        intro e he
        simp only [List.mem_cons, List.not_mem_nil, or_false] at he
        rcases he with rfl | rfl | rfl
        · exact s47
        · exact s57
        · exact s63
        )
      simp only [List.map_cons, List.map_nil] at hr8
      refine seg cfg4L_ok mixed PanicFree.body 1000 [] [(47, true)] hr8 (by first | trivial | exact HpRep.nil | assumption) (by kernel_rfl) fun s_ hs_ => ?_
      simp (maxSteps := 10000000) [SX.vc, SX.stop, SX.contS, SX.contB, SX.contW, SX.contR, SX.contD, SX.sxStep, SX.stepPure, SX.stepNew, SX.stepStore, SX.stepKeep, SX.guardIx, SX.evOp, SX.opd, SX.opds, SX.optOpd, SX.look, SX.putS, SX.gobs, SX.AllP, SX.leave, SX.lookC, SX.lookB, SX.lookT, SX.lookN, SX.findK, SX.evBuiltin, SX.ints, SX.foldI, SX.evBin, SX.evInt, SX.evStr, SX.evEq, SX.arith, SX.evLoad, SX.shapeUp, SX.evFieldAddr, SX.evField, SX.evIndexAddr, SX.evIndex, SX.evFill, SX.evBuild, SX.szs, SX.cellsV, SX.evNew, SX.evStore, SX.spliceL, SX.SV.cells, SX.evConv, SX.evSlice, SX.bnd, SX.evNil, SX.evUn, SX.evPick, SX.pickOpd, SX.popTo, SX.cnd, SX.env0, SX.TD.isAgg, SX.TD.isIface, SX.tails, SX.NotAgg, SX.evLookup, SX.evConvH, SX.evPtrEq, SX.isCells, Go.Value.cells, cfg4L, cfg4, vx32]
      refine ⟨by (unfold SX.Ob; first | trivial | omega | ((try simp only [SX.inK]); (try simp [SX.den, SX.IsU8, *]); (try omega))), ?_⟩
      intro a9 w9 hr9 _
      have hb9 : Below w8.heap.size w8 w9 := hr9.keeps.toBelow
      exact post_inv fun v hv => hI.put hTn hTf hTl T12_mono (i := 18) rfl hv hr9.env.2.1 (slotOf hr9 rfl) (KeepsTo.below hb9 _) (by rw [show u12 (listed.setIfInBounds 18 true) = u12 listed from by unfold u12; rw [b2i_ne (by omega), b2i_ne (by omega), b2i_ne (by omega), b2i_ne (by omega)]]; exact (hI.tab.keep hb9)) (by first | rfl | simp [eqv, den])
    · cases ho
      obtain ⟨_, s47, rfl⟩ := hI.sp 1 _ _ rfl (hd ⟨1, .guard⟩ (by simp) rfl)
      have hr8 := mk0 (w := w8) (M := []) hI.size hI.defs [(47, .v (.bool true)), (11, .v (.pointer (some ⟨b, 0, none⟩)))] [] trivial (by
        intro e he
        simp only [List.mem_cons, List.not_mem_nil, or_false] at he
        rcases he with rfl | rfl
        · exact s47
        · exact h11
        )
      simp only [List.map_cons, List.map_nil] at hr8
      refine seg cfg4L_ok mixed PanicFree.body 1000 [] [(47, true)] hr8 (by first | trivial | exact HpRep.nil | assumption) (by kernel_rfl) fun s_ hs_ => ?_
      simp (maxSteps := 10000000) [SX.vc, SX.stop, SX.contS, SX.contB, SX.contW, SX.contR, SX.contD, SX.sxStep, SX.stepPure, SX.stepNew, SX.stepStore, SX.stepKeep, SX.guardIx, SX.evOp, SX.opd, SX.opds, SX.optOpd, SX.look, SX.putS, SX.gobs, SX.AllP, SX.leave, SX.lookC, SX.lookB, SX.lookT, SX.lookN, SX.findK, SX.evBuiltin, SX.ints, SX.foldI, SX.evBin, SX.evInt, SX.evStr, SX.evEq, SX.arith, SX.evLoad, SX.shapeUp, SX.evFieldAddr, SX.evField, SX.evIndexAddr, SX.evIndex, SX.evFill, SX.evBuild, SX.szs, SX.cellsV, SX.evNew, SX.evStore, SX.spliceL, SX.SV.cells, SX.evConv, SX.evSlice, SX.bnd, SX.evNil, SX.evUn, SX.evPick, SX.pickOpd, SX.popTo, SX.cnd, SX.env0, SX.TD.isAgg, SX.TD.isIface, SX.tails, SX.NotAgg, SX.evLookup, SX.evConvH, SX.evPtrEq, SX.isCells, Go.Value.cells, cfg4L, cfg4, vx32]
      refine ⟨by (unfold SX.Ob; first | trivial | omega | ((try simp only [SX.inK]); (try simp [SX.den, SX.IsU8, *]); (try omega))), ?_⟩
      intro a9 w9 hr9 _
      have hb9 : Below w8.heap.size w8 w9 := hr9.keeps.toBelow
      exact post_inv fun v hv => hI.put hTn hTf hTl T12_mono (i := 19) rfl hv hr9.env.2.1 (slotOf hr9 rfl) (KeepsTo.below hb9 _) (by rw [show u12 (listed.setIfInBounds 19 true) = u12 listed from by unfold u12; rw [b2i_ne (by omega), b2i_ne (by omega), b2i_ne (by omega), b2i_ne (by omega)]]; exact (hI.tab.keep hb9)) (by first | rfl | simp [eqv, den])
    · cases ho
      obtain ⟨_, s47, rfl⟩ := hI.sp 1 _ _ rfl (hd ⟨1, .guard⟩ (by simp) rfl)
      have hr8 := mk0 (w := w8) (M := []) hI.size hI.defs [(47, .v (.bool true)), (2, .v (.slice ac lc cc))] [] trivial (by
        intro e he
        simp only [List.mem_cons, List.not_mem_nil, or_false] at he
        rcases he with rfl | rfl
        · exact s47
        · exact h02
        )
      simp only [List.map_cons, List.map_nil] at hr8
      refine seg cfg4L_ok mixed PanicFree.body 1000 [] [(47, true)] hr8 (by first | trivial | exact HpRep.nil | assumption) (by kernel_rfl) fun s_ hs_ => ?_
      simp (maxSteps := 10000000) [SX.vc, SX.stop, SX.contS, SX.contB, SX.contW, SX.contR, SX.contD, SX.sxStep, SX.stepPure, SX.stepNew, SX.stepStore, SX.stepKeep, SX.guardIx, SX.evOp, SX.opd, SX.opds, SX.optOpd, SX.look, SX.putS, SX.gobs, SX.AllP, SX.leave, SX.lookC, SX.lookB, SX.lookT, SX.lookN, SX.findK, SX.evBuiltin, SX.ints, SX.foldI, SX.evBin, SX.evInt, SX.evStr, SX.evEq, SX.arith, SX.evLoad, SX.shapeUp, SX.evFieldAddr, SX.evField, SX.evIndexAddr, SX.evIndex, SX.evFill, SX.evBuild, SX.szs, SX.cellsV, SX.evNew, SX.evStore, SX.spliceL, SX.SV.cells, SX.evConv, SX.evSlice, SX.bnd, SX.evNil, SX.evUn, SX.evPick, SX.pickOpd, SX.popTo, SX.cnd, SX.env0, SX.TD.isAgg, SX.TD.isIface, SX.tails, SX.NotAgg, SX.evLookup, SX.evConvH, SX.evPtrEq, SX.isCells, Go.Value.cells, cfg4L, cfg4, vx32]
      refine ⟨by (unfold SX.Ob; first | trivial | omega | ((try simp only [SX.inK]); (try simp [SX.den, SX.IsU8, *]); (try omega))), ?_⟩
      intro a9 w9 hr9 _
      have hb9 : Below w8.heap.size w8 w9 := hr9.keeps.toBelow
      exact post_inv fun v hv => hI.put hTn hTf hTl T12_mono (i := 20) rfl hv hr9.env.2.1 (slotOf hr9 rfl) (KeepsTo.below hb9 _) (by rw [show u12 (listed.setIfInBounds 20 true) = u12 listed from by unfold u12; rw [b2i_ne (by omega), b2i_ne (by omega), b2i_ne (by omega), b2i_ne (by omega)]]; exact (hI.tab.keep hb9)) (by first | rfl | simp [eqv, den])
    · cases ho
      obtain ⟨_, s47, rfl⟩ := hI.sp 1 _ _ rfl (hd ⟨1, .guard⟩ (by simp) rfl)
      have hr8 := mk0 (w := w8) (M := []) hI.size hI.defs [(47, .v (.bool true)), (8, .v (.int .i64 k))] [] trivial (by
        intro e he
        simp only [List.mem_cons, List.not_mem_nil, or_false] at he
        rcases he with rfl | rfl
        · exact s47
        · exact h08
        )
      simp only [List.map_cons, List.map_nil] at hr8
      refine seg cfg4L_ok mixed PanicFree.body 1000 [] [(47, true)] hr8 (by first | trivial | exact HpRep.nil | assumption) (by kernel_rfl) fun s_ hs_ => ?_
      simp (maxSteps := 10000000) [SX.vc, SX.stop, SX.contS, SX.contB, SX.contW, SX.contR, SX.contD, SX.sxStep, SX.stepPure, SX.stepNew, SX.stepStore, SX.stepKeep, SX.guardIx, SX.evOp, SX.opd, SX.opds, SX.optOpd, SX.look, SX.putS, SX.gobs, SX.AllP, SX.leave, SX.lookC, SX.lookB, SX.lookT, SX.lookN, SX.findK, SX.evBuiltin, SX.ints, SX.foldI, SX.evBin, SX.evInt, SX.evStr, SX.evEq, SX.arith, SX.evLoad, SX.shapeUp, SX.evFieldAddr, SX.evField, SX.evIndexAddr, SX.evIndex, SX.evFill, SX.evBuild, SX.szs, SX.cellsV, SX.evNew, SX.evStore, SX.spliceL, SX.SV.cells, SX.evConv, SX.evSlice, SX.bnd, SX.evNil, SX.evUn, SX.evPick, SX.pickOpd, SX.popTo, SX.cnd, SX.env0, SX.TD.isAgg, SX.TD.isIface, SX.tails, SX.NotAgg, SX.evLookup, SX.evConvH, SX.evPtrEq, SX.isCells, Go.Value.cells, cfg4L, cfg4, vx32]
      refine ⟨by (unfold SX.Ob; first | trivial | omega | ((try simp only [SX.inK]); (try simp [SX.den, SX.IsU8, *]); (try omega))), ?_⟩
      intro a9 w9 hr9 _
      have hb9 : Below w8.heap.size w8 w9 := hr9.keeps.toBelow
      exact post_inv fun v hv => hI.put hTn hTf hTl T12_mono (i := 21) rfl hv hr9.env.2.1 (slotOf hr9 rfl) (KeepsTo.below hb9 _) (by rw [show u12 (listed.setIfInBounds 21 true) = u12 listed from by unfold u12; rw [b2i_ne (by omega), b2i_ne (by omega), b2i_ne (by omega), b2i_ne (by omega)]]; exact (hI.tab.keep hb9)) (by first | rfl | simp [eqv, den])
    · cases ho
      obtain ⟨_, s47, rfl⟩ := hI.sp 1 _ _ rfl (hd ⟨1, .guard⟩ (by simp) rfl)
      obtain ⟨_, s66, rfl⟩ := hI.sp 20 _ _ rfl (hd ⟨20, .data⟩ (by simp) rfl)
      obtain ⟨_, s67, rfl⟩ := hI.sp 21 _ _ rfl (hd ⟨21, .data⟩ (by simp) rfl)
      have hr8 := mk0 (w := w8) (M := []) hI.size hI.defs [(47, .v (.bool true)), (66, .v (.slice ac lc cc)), (67, .v (.int .i64 k))] [] trivial (by
        intro e he
        simp only [List.mem_cons, List.not_mem_nil, or_false] at he
        rcases he with rfl | rfl | rfl
        · exact s47
        · exact s66
        · exact s67
        )
      simp only [List.map_cons, List.map_nil] at hr8
      refine post_stepG (want47 rfl rfl s47) (exec_slice_to (st := _) (ad := ac) (len := lc) (cap := cc) (n := k) (hr8.env.same rfl rfl rfl rfl) rfl rfl rfl (by omega) hsc) ?_
      exact fun ⟨v, hv⟩ => hI.put hTn hTf hTl T12_mono (i := 22) rfl hv hI.defs (putAt (by rw [hI.size]; omega)) (KeepsTo.refl w8 _) (by rw [show u12 (listed.setIfInBounds 22 true) = u12 listed from by unfold u12; rw [b2i_ne (by omega), b2i_ne (by omega), b2i_ne (by omega), b2i_ne (by omega)]]; exact hI.tab) rfl
    · cases ho
      obtain ⟨_, s47, rfl⟩ := hI.sp 1 _ _ rfl (hd ⟨1, .guard⟩ (by simp) rfl)
      obtain ⟨_, s68, rfl⟩ := hI.sp 22 _ _ rfl (hd ⟨22, .data⟩ (by simp) rfl)
      have hr8 := mk0 (w := w8) (M := []) hI.size hI.defs [(47, .v (.bool true)), (68, .v (.slice ac k cc))] [] trivial (by
        intro e he
        simp only [List.mem_cons, List.not_mem_nil, or_false] at he
        rcases he with rfl | rfl
        · exact s47
        · exact s68
        )
      simp only [List.map_cons, List.map_nil] at hr8
      refine seg cfg4L_ok mixed PanicFree.body 1000 [] [(47, true)] hr8 (by first | trivial | exact HpRep.nil | assumption) (by kernel_rfl) fun s_ hs_ => ?_
      simp (maxSteps := 10000000) [SX.vc, SX.stop, SX.contS, SX.contB, SX.contW, SX.contR, SX.contD, SX.sxStep, SX.stepPure, SX.stepNew, SX.stepStore, SX.stepKeep, SX.guardIx, SX.evOp, SX.opd, SX.opds, SX.optOpd, SX.look, SX.putS, SX.gobs, SX.AllP, SX.leave, SX.lookC, SX.lookB, SX.lookT, SX.lookN, SX.findK, SX.evBuiltin, SX.ints, SX.foldI, SX.evBin, SX.evInt, SX.evStr, SX.evEq, SX.arith, SX.evLoad, SX.shapeUp, SX.evFieldAddr, SX.evField, SX.evIndexAddr, SX.evIndex, SX.evFill, SX.evBuild, SX.szs, SX.cellsV, SX.evNew, SX.evStore, SX.spliceL, SX.SV.cells, SX.evConv, SX.evSlice, SX.bnd, SX.evNil, SX.evUn, SX.evPick, SX.pickOpd, SX.popTo, SX.cnd, SX.env0, SX.TD.isAgg, SX.TD.isIface, SX.tails, SX.NotAgg, SX.evLookup, SX.evConvH, SX.evPtrEq, SX.isCells, Go.Value.cells, cfg4L, cfg4]
      refine ⟨by (unfold SX.Ob; first | trivial | omega | ((try simp only [SX.inK]); (try simp [SX.den, SX.IsU8, *]); (try omega))), ?_⟩
      intro a9 w9 hr9 _
      have hb9 : Below w8.heap.size w8 w9 := hr9.keeps.toBelow
      exact post_inv fun v hv => hI.put hTn hTf hTl T12_mono (i := 23) rfl hv hr9.env.2.1 (slotOf hr9 rfl) (KeepsTo.below hb9 _) (by rw [show u12 (listed.setIfInBounds 23 true) = u12 listed from by unfold u12; rw [b2i_ne (by omega), b2i_ne (by omega), b2i_ne (by omega), b2i_ne (by omega)]]; exact (hI.tab.keep hb9)) (LV.one (Nat.le_refl _) (by omega) hr9.all.1.1 rfl ((hC7.keep hwk).below hb9) (by omega))
    · cases ho
      obtain ⟨_, s47, rfl⟩ := hI.sp 1 _ _ rfl (hd ⟨1, .guard⟩ (by simp) rfl)
      obtain ⟨_, s65, rfl⟩ := hI.sp 19 _ _ rfl (hd ⟨19, .data⟩ (by simp) rfl)
      obtain ⟨v69, s69, l69⟩ := hI.sp 23 _ _ rfl (hd ⟨23, .data⟩ (by simp) rfl)
      obtain ⟨x69, y69, rfl⟩ := LV.slice l69
      have hr8 := mk0 (w := w8) (M := [b]) hI.size hI.defs [(47, .v (.bool true)), (65, .v (.pointer (some ⟨b, 0, none⟩))), (69, .v (.slice x69 1 y69))] [] trivial (by
        intro e he
        simp only [List.mem_cons, List.not_mem_nil, or_false] at he
        rcases he with rfl | rfl | rfl
        · exact s47
        · exact s65
        · exact s69
        )
      simp only [List.map_cons, List.map_nil] at hr8
      have hu8 : 0 ≤ u12 listed ∧ u12 listed ≤ 4 := by have := b2i_in listed 5; have := b2i_in listed 11; have := b2i_in listed 17; have := b2i_in listed 24; unfold u12; omega
      refine post_call 11 [.v (.pointer (some ⟨b, 0, none⟩)), .v (.slice x69 1 y69)] hr8 (want47 rfl rfl s47) rfl (callable 11 Try.func11) (sum_ok w8 b _ hI.tab (by unfold inK; omega) _ 1 _ _ l69 (by omega)) ?_
      rintro e w9 ⟨rfl, hk9, hT9⟩
      refine ⟨_, rfl, ?_⟩
      exact fun ⟨v, hv⟩ => hI.put hTn hTf hTl T12_mono (i := 24) rfl hv hI.defs (putAt (by rw [hI.size]; omega)) hk9 (by rw [show u12 (listed.setIfInBounds 24 true) = u12 listed + 1 from by unfold u12; rw [b2i_ne (by omega), b2i_ne (by omega), b2i_ne (by omega), b2i_eq hl]; omega]; exact hT9) (by rw [hCC]; rfl)
    · cases ho
      obtain ⟨_, s47, rfl⟩ := hI.sp 1 _ _ rfl (hd ⟨1, .guard⟩ (by simp) rfl)
      obtain ⟨_, s64, rfl⟩ := hI.sp 18 _ _ rfl (hd ⟨18, .data⟩ (by simp) rfl)
      obtain ⟨_, s70, rfl⟩ := hI.sp 24 _ _ rfl (hd ⟨24, .data⟩ (by simp) rfl)
      have hr8 := mk0 (w := w8) (M := []) hI.size hI.defs [(47, .v (.bool true)), (64, .v (.int .u32 (rv (A ^^^ B)))), (70, .v (.int .u32 (rv C)))] [] trivial (by
        intro e he
        simp only [List.mem_cons, List.not_mem_nil, or_false] at he
        rcases he with rfl | rfl | rfl
        · exact s47
        · exact s64
        · exact s70
        )
      simp only [List.map_cons, List.map_nil] at hr8
      refine seg cfg4L_ok mixed PanicFree.body 1000 [] [(47, true)] hr8 (by first | trivial | exact HpRep.nil | assumption) (by kernel_rfl) fun s_ hs_ => ?_
      simp (maxSteps := 10000000) [SX.vc, SX.stop, SX.contS, SX.contB, SX.contW, SX.contR, SX.contD, SX.sxStep, SX.stepPure, SX.stepNew, SX.stepStore, SX.stepKeep, SX.guardIx, SX.evOp, SX.opd, SX.opds, SX.optOpd, SX.look, SX.putS, SX.gobs, SX.AllP, SX.leave, SX.lookC, SX.lookB, SX.lookT, SX.lookN, SX.findK, SX.evBuiltin, SX.ints, SX.foldI, SX.evBin, SX.evInt, SX.evStr, SX.evEq, SX.arith, SX.evLoad, SX.shapeUp, SX.evFieldAddr, SX.evField, SX.evIndexAddr, SX.evIndex, SX.evFill, SX.evBuild, SX.szs, SX.cellsV, SX.evNew, SX.evStore, SX.spliceL, SX.SV.cells, SX.evConv, SX.evSlice, SX.bnd, SX.evNil, SX.evUn, SX.evPick, SX.pickOpd, SX.popTo, SX.cnd, SX.env0, SX.TD.isAgg, SX.TD.isIface, SX.tails, SX.NotAgg, SX.evLookup, SX.evConvH, SX.evPtrEq, SX.isCells, Go.Value.cells, cfg4L, cfg4, vx32]
      refine ⟨by (unfold SX.Ob; first | trivial | omega | ((try simp only [SX.inK]); (try simp [SX.den, SX.IsU8, *]); (try omega))), ?_⟩
      intro a9 w9 hr9 _
      have hb9 : Below w8.heap.size w8 w9 := hr9.keeps.toBelow
      exact post_inv fun v hv => hI.put hTn hTf hTl T12_mono (i := 25) rfl hv hr9.env.2.1 (slotOf hr9 rfl) (KeepsTo.below hb9 _) (by rw [show u12 (listed.setIfInBounds 25 true) = u12 listed from by unfold u12; rw [b2i_ne (by omega), b2i_ne (by omega), b2i_ne (by omega), b2i_ne (by omega)]]; exact (hI.tab.keep hb9)) (by first | rfl | simp [eqv, den])
    · cases ho
      obtain ⟨_, s47, rfl⟩ := hI.sp 1 _ _ rfl (hd ⟨1, .guard⟩ (by simp) rfl)
      obtain ⟨_, s51, rfl⟩ := hI.sp 5 _ _ rfl (hd ⟨5, .data⟩ (by simp) rfl)
      obtain ⟨_, s71, rfl⟩ := hI.sp 25 _ _ rfl (hd ⟨25, .data⟩ (by simp) rfl)
      have hr8 := mk0 (w := w8) (M := []) hI.size hI.defs [(47, .v (.bool true)), (51, .v (.int .u32 (rv (A ^^^ B ^^^ C)))), (71, .v (.int .u32 (rv (A ^^^ B ^^^ C))))] [] trivial (by
        intro e he
        simp only [List.mem_cons, List.not_mem_nil, or_false] at he
        rcases he with rfl | rfl | rfl
        · exact s47
        · exact s51
        · exact s71
        )
      simp only [List.map_cons, List.map_nil] at hr8
      refine seg cfg4L_ok mixed PanicFree.body 1000 [] [(47, true)] hr8 (by first | trivial | exact HpRep.nil | assumption) (by kernel_rfl) fun s_ hs_ => ?_
      simp (maxSteps := 10000000) [SX.vc, SX.stop, SX.contS, SX.contB, SX.contW, SX.contR, SX.contD, SX.sxStep, SX.stepPure, SX.stepNew, SX.stepStore, SX.stepKeep, SX.guardIx, SX.evOp, SX.opd, SX.opds, SX.optOpd, SX.look, SX.putS, SX.gobs, SX.AllP, SX.leave, SX.lookC, SX.lookB, SX.lookT, SX.lookN, SX.findK, SX.evBuiltin, SX.ints, SX.foldI, SX.evBin, SX.evInt, SX.evStr, SX.evEq, SX.arith, SX.evLoad, SX.shapeUp, SX.evFieldAddr, SX.evField, SX.evIndexAddr, SX.evIndex, SX.evFill, SX.evBuild, SX.szs, SX.cellsV, SX.evNew, SX.evStore, SX.spliceL, SX.SV.cells, SX.evConv, SX.evSlice, SX.bnd, SX.evNil, SX.evUn, SX.evPick, SX.pickOpd, SX.popTo, SX.cnd, SX.env0, SX.TD.isAgg, SX.TD.isIface, SX.tails, SX.NotAgg, SX.evLookup, SX.evConvH, SX.evPtrEq, SX.isCells, Go.Value.cells, cfg4L, cfg4, vx32]
      refine ⟨by (unfold SX.Ob; first | trivial | omega | ((try simp only [SX.inK]); (try simp [SX.den, SX.IsU8, *]); (try omega))), ?_⟩
      intro a9 w9 hr9 _
      have hb9 : Below w8.heap.size w8 w9 := hr9.keeps.toBelow
      exact post_inv fun v hv => hI.put hTn hTf hTl T12_mono (i := 26) rfl hv hr9.env.2.1 (slotOf hr9 rfl) (KeepsTo.below hb9 _) (by rw [show u12 (listed.setIfInBounds 26 true) = u12 listed from by unfold u12; rw [b2i_ne (by omega), b2i_ne (by omega), b2i_ne (by omega), b2i_ne (by omega)]]; exact (hI.tab.keep hb9)) (by first | rfl | simp [eqv, den])
    · cases ho
      obtain ⟨_, s47, rfl⟩ := hI.sp 1 _ _ rfl (hd ⟨1, .data⟩ (by simp) rfl)
      obtain ⟨_, s72, rfl⟩ := hI.sp 26 _ _ rfl (hd ⟨26, .data⟩ (by simp) rfl)
      have hr8 := mk0 (w := w8) (M := []) hI.size hI.defs [(47, .v (.bool true)), (72, .v (.bool true))] [] trivial (by
        intro e he
        simp only [List.mem_cons, List.not_mem_nil, or_false] at he
        rcases he with rfl | rfl
        · exact s47
        · exact s72
        )
      simp only [List.map_cons, List.map_nil] at hr8
      refine seg cfg4L_ok mixed PanicFree.body 1000 [] [] hr8 (by first | trivial | exact HpRep.nil | assumption) (by kernel_rfl) fun s_ hs_ => ?_
      simp (maxSteps := 10000000) [SX.vc, SX.stop, SX.contS, SX.contB, SX.contW, SX.contR, SX.contD, SX.sxStep, SX.stepPure, SX.stepNew, SX.stepStore, SX.stepKeep, SX.guardIx, SX.evOp, SX.opd, SX.opds, SX.optOpd, SX.look, SX.putS, SX.gobs, SX.AllP, SX.leave, SX.lookC, SX.lookB, SX.lookT, SX.lookN, SX.findK, SX.evBuiltin, SX.ints, SX.foldI, SX.evBin, SX.evInt, SX.evStr, SX.evEq, SX.arith, SX.evLoad, SX.shapeUp, SX.evFieldAddr, SX.evField, SX.evIndexAddr, SX.evIndex, SX.evFill, SX.evBuild, SX.szs, SX.cellsV, SX.evNew, SX.evStore, SX.spliceL, SX.SV.cells, SX.evConv, SX.evSlice, SX.bnd, SX.evNil, SX.evUn, SX.evPick, SX.pickOpd, SX.popTo, SX.cnd, SX.env0, SX.TD.isAgg, SX.TD.isIface, SX.tails, SX.NotAgg, SX.evLookup, SX.evConvH, SX.evPtrEq, SX.isCells, Go.Value.cells, cfg4L, cfg4, vx32]
      refine ⟨by (unfold SX.Ob; first | trivial | omega | ((try simp only [SX.inK]); (try simp [SX.den, SX.IsU8, *]); (try omega))), ?_⟩
      intro a9 w9 hr9 _
      have hb9 : Below w8.heap.size w8 w9 := hr9.keeps.toBelow
      exact post_inv fun v hv => hI.put hTn hTf hTl T12_mono (i := 27) rfl hv hr9.env.2.1 (slotOf hr9 rfl) (KeepsTo.below hb9 _) (by rw [show u12 (listed.setIfInBounds 27 true) = u12 listed from by unfold u12; rw [b2i_ne (by omega), b2i_ne (by omega), b2i_ne (by omega), b2i_ne (by omega)]]; exact (hI.tab.keep hb9)) (by first | rfl | simp [eqv, den])
    · cases ho
      obtain ⟨_, s73, rfl⟩ := hI.sp 27 _ _ rfl (hd ⟨27, .data⟩ (by simp) rfl)
      have hr8 := mk0 (w := w8) (M := []) hI.size hI.defs [(73, .v (.bool true))] [] trivial (by
        intro e he
        simp only [List.mem_cons, List.not_mem_nil, or_false] at he
        rcases he with rfl
        · exact s73
        )
      simp only [List.map_cons, List.map_nil] at hr8
      refine seg cfg4L_ok mixed PanicFree.body 1000 [] [] hr8 (by first | trivial | exact HpRep.nil | assumption) (by kernel_rfl) fun s_ hs_ => ?_
      simp (maxSteps := 10000000) [SX.vc, SX.stop, SX.contS, SX.contB, SX.contW, SX.contR, SX.contD, SX.sxStep, SX.stepPure, SX.stepNew, SX.stepStore, SX.stepKeep, SX.guardIx, SX.evOp, SX.opd, SX.opds, SX.optOpd, SX.look, SX.putS, SX.gobs, SX.AllP, SX.leave, SX.lookC, SX.lookB, SX.lookT, SX.lookN, SX.findK, SX.evBuiltin, SX.ints, SX.foldI, SX.evBin, SX.evInt, SX.evStr, SX.evEq, SX.arith, SX.evLoad, SX.shapeUp, SX.evFieldAddr, SX.evField, SX.evIndexAddr, SX.evIndex, SX.evFill, SX.evBuild, SX.szs, SX.cellsV, SX.evNew, SX.evStore, SX.spliceL, SX.SV.cells, SX.evConv, SX.evSlice, SX.bnd, SX.evNil, SX.evUn, SX.evPick, SX.pickOpd, SX.popTo, SX.cnd, SX.env0, SX.TD.isAgg, SX.TD.isIface, SX.tails, SX.NotAgg, SX.evLookup, SX.evConvH, SX.evPtrEq, SX.isCells, Go.Value.cells, cfg4L, cfg4, vx32]
      refine ⟨by (unfold SX.Ob; first | trivial | omega | ((try simp only [SX.inK]); (try simp [SX.den, SX.IsU8, *]); (try omega))), ?_⟩
      intro a9 w9 hr9 _
      have hb9 : Below w8.heap.size w8 w9 := hr9.keeps.toBelow
      exact post_inv fun v hv => hI.put hTn hTf hTl T12_mono (i := 28) rfl hv hr9.env.2.1 (slotOf hr9 rfl) (KeepsTo.below hb9 _) (by rw [show u12 (listed.setIfInBounds 28 true) = u12 listed from by unfold u12; rw [b2i_ne (by omega), b2i_ne (by omega), b2i_ne (by omega), b2i_ne (by omega)]]; exact (hI.tab.keep hb9)) (by first | rfl | simp [eqv, den])
  · intro listed a8 w8 hs hl hI
    obtain ⟨_, s6, rfl⟩ := hI.sp 28 _ _ rfl (hl 28 (by show 28 < 29; omega))
    have hr8 := mk0 (w := w8) (M := []) hI.size hI.defs [(6, .v (.bool true))] [] trivial (by
      intro e he
      simp only [List.mem_cons, List.not_mem_nil, or_false] at he
      rcases he with rfl
      exact s6)
    simp only [List.map_cons, List.map_nil] at hr8
    have hfin : Below w.heap.size w w8 := (Keeps.to hr7.keeps hI.kp (fun x hx => .inl (by simp at hx; subst hx; exact hwb))).toBelow
    refine seg cfg4_ok mixed PanicFree.body 1000 [] [] hr8 (by first | trivial | exact HpRep.nil | assumption) (by kernel_rfl) fun s_ hs_ => ?_
    simp (maxSteps := 10000000) [SX.vc, SX.stop, SX.contS, SX.contB, SX.contW, SX.contR, SX.contD, SX.sxStep, SX.stepPure, SX.stepNew, SX.stepStore, SX.stepKeep, SX.guardIx, SX.evOp, SX.opd, SX.opds, SX.optOpd, SX.look, SX.putS, SX.gobs, SX.AllP, SX.leave, SX.lookC, SX.lookB, SX.lookT, SX.lookN, SX.findK, SX.evBuiltin, SX.ints, SX.foldI, SX.evBin, SX.evInt, SX.evStr, SX.evEq, SX.arith, SX.evLoad, SX.shapeUp, SX.evFieldAddr, SX.evField, SX.evIndexAddr, SX.evIndex, SX.evFill, SX.evBuild, SX.szs, SX.cellsV, SX.evNew, SX.evStore, SX.spliceL, SX.SV.cells, SX.evConv, SX.evSlice, SX.bnd, SX.evNil, SX.evUn, SX.evPick, SX.pickOpd, SX.popTo, SX.cnd, SX.env0, SX.TD.isAgg, SX.TD.isIface, SX.tails, SX.NotAgg, SX.evLookup, SX.evConvH, SX.evPtrEq, SX.isCells, Go.Value.cells, cfg4]
    refine ⟨by (unfold SX.Ob; first | trivial | omega | ((try simp only [SX.inK]); (try simp [SX.den, SX.IsU8, *]); (try omega))), ?_⟩
    intro a9 w9 hr9 _
    have hb9 : Below w8.heap.size w8 w9 := hr9.keeps.toBelow
    have hk9 : Keeps (frame0 w) w9 := Keeps.to (Keeps.to hr7.keeps hI.kp (fun x hx => .inl (by simp at hx; subst hx; exact hwb))) (KeepsTo.below hb9 []) (by simp)
    exact post_retn (end1 hr9 rfl rfl ⟨rfl, hk9.toBelow⟩).1
end Go.Proofs
