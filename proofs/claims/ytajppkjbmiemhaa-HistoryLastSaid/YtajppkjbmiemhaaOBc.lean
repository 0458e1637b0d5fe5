/- Histories: Last. -/
import Derived.Test.YtajppkjbmiemhaaOBb
namespace Go.Proofs
set_option linter.unusedVariables false
set_option linter.unusedSimpArgs false
set_option linter.unusedSectionVars false
open Go Go.RowKit Go.Shelf Go.Hist

attribute [local go_sem] Oper.semAt_some

def evC (e : HEv) : Array Value := #[.int .i64 e.at_, .int .i64 e.lba, .bool e.rd, .int .i64 e.ver, .int .u8 e.by_]
def Blk (W : World) (B : Nat) (c : Array Value) (t : TypeId) : Prop := W.heap[B]? = some (.cells c t (0, 0))
theorem Blk.kept {W W' : World} {row : Option Nat} {B : Nat} {c : Array Value} {t : TypeId} (h : Blk W B c t) (hg : W.grownBy W' row) (hrow : ∀ r, row = some r → ∃ o : Obj, W.heap[r]? = some o ∧ o.isCells = false) : Blk W' B c t :=
  (grownBy_keeps_cells hg hrow h rfl).trans h
theorem Blk.alloc {W : World} {B : Nat} {c : Array Value} {t : TypeId} (h : Blk W B c t) (o : Obj) : Blk (W.alloc o) B c t := h.kept (World.grownBy_alloc W o none) (fun _ e => by cases e)
theorem Blk.new (W : World) (c : Array Value) (t : TypeId) : Blk (W.alloc (.cells c t)) W.heap.size c t := World.alloc_heap_new W _
theorem Blk.cell {W : World} {B i : Nat} {c : Array Value} {t : TypeId} {v : Value} (h : Blk W B c t) (hv : c[i]? = some v) : W.cell? ⟨B, i, none⟩ = some v := by simp [World.cell?, show W.heap[B]? = _ from h, hv]
theorem Blk.frozen {W : World} {B i : Nat} {c : Array Value} {t : TypeId} (h : Blk W B c t) : W.frozen? ⟨B, i, none⟩ = false := by simp [World.frozen?, show W.heap[B]? = _ from h]
theorem Blk.set {W : World} {B i : Nat} {c : Array Value} {t : TypeId} (v : Value) (h : Blk W B c t) : Blk (W.setCell ⟨B, i, none⟩ v) B (c.setIfInBounds i v) t := heap_setCell_at v h
theorem Blk.other {W : World} {B B' i : Nat} {c : Array Value} {t : TypeId} (h : Blk W B c t) (hne : B ≠ B') (v : Value) : Blk (W.setCell ⟨B', i, none⟩ v) B c t := (Below.heap_setCell W ⟨B', i, none⟩ v B hne).trans h
def noE (lba : Int) (pre : List (Nat × HEv)) : Prop := ∀ p ∈ pre, ¬ (p.2.lba = lba ∧ p.2.rd = false)
def LaI (s : Nat) (lba : Int) (pre : List (Nat × HEv)) (W : World) : Prop := Blk W s #[.int .i64 lba] 3 ∧ Blk W (s + 1) (evC zeroEv) 28 ∧ Blk W (s + 2) #[.bool false] 4 ∧ noE lba pre
def LaX (s : Nat) (lba : Int) (c : Code) (pre : List (Nat × HEv)) (W : World) : Prop := c = .ret ∧ ∃ ini last, pre = ini ++ [last] ∧ noE lba ini ∧ last.2.lba = lba ∧ last.2.rd = false ∧ Blk W (s + 1) (evC last.2) 28 ∧ Blk W (s + 2) #[.bool true] 4
def LaA (s : Nat) (a : Option Addr) (len cap : Nat) (lba : Int) (x : Nat × HEv) (a' : Act) (W : World) : Prop :=
  ∃ Bx, s + 4 ≤ Bx ∧ Blk W Bx (evC x.2) 28 ∧ a' = { tmps := #[.slice a len cap, .int .i64 lba, undef, .pointer (some ⟨s, 0, none⟩), .pointer (some ⟨s + 1, 0, none⟩), .pointer (some ⟨s + 1 + 1, 0, none⟩), undef, .pointer (some ⟨Bx, 0, none⟩), .slice a len cap, .func (.func 27) #[] #[.pointer (some ⟨s + 1 + 1 + 1, 0, none⟩)], .int .i64 (x.1 : Int), evV x.2, undef, undef, undef, undef, undef, undef, undef, undef, undef, undef, undef], defers := [] }
theorem laI_own (s : Nat) (lba : Int) : Own (LaI s lba) := fun _ _ _ _ h hg hr => ⟨h.1.kept hg hr, h.2.1.kept hg hr, h.2.2.1.kept hg hr, h.2.2.2⟩
theorem laX_own (s : Nat) (lba : Int) (c : Code) : Own (LaX s lba c) := fun _ _ _ _ h hg hr => by
  obtain ⟨h0, ini, last, h1, h2, h3, h4, h5, h6⟩ := h
  exact ⟨h0, ini, last, h1, h2, h3, h4, h5.kept hg hr, h6.kept hg hr⟩
theorem laA_own (s : Nat) (a : Option Addr) (len cap : Nat) (lba : Int) (x : Nat × HEv) (a' : Act) : Own (fun (_ : Unit) W => LaA s a len cap lba x a' W) := fun _ _ _ _ h hg hr => by
  obtain ⟨Bx, h1, h2, h3⟩ := h
  exact ⟨Bx, h1, h2.kept hg hr, h3⟩

set_option maxRecDepth 100000 in
set_option maxHeartbeats 4000000 in
theorem last_in (F : Fence) (n : Nat) (h13 : F.fn 13) (h21 : F.fn 21) (h27 : F.fn 27) (hro : F.round = none) (hn : 3 ≤ n) (a : Option Addr) (len cap : Nat) (f : Nat → HEv) (lba : Int) (hreach : len ≤ 1000000) (w : World) (hI : Evs w.heap.size w (.slice a len cap) len f) :
    CallsIn F n Try.prog 13 #[.slice a len cap, .int .i64 lba] w fun e W' =>
      ((e = .returned (.tuple #[evV zeroEv, .bool false]) ∧ ∀ j, j < len → ¬ ((f j).lba = lba ∧ (f j).rd = false)) ∨ (∃ k : Nat, k < len ∧ e = .returned (.tuple #[evV (f k), .bool true]) ∧ (f k).lba = lba ∧ (f k).rd = false ∧ ∀ j, k < j → j < len → ¬ ((f j).lba = lba ∧ (f j).rd = false))) ∧ Below w.heap.size w W' := by
  have h1 : 1 ≤ n := by omega
  refine callsIn_of_wp_marks Try.func13 rfl h13 ?_ hro
  simp only [Try.ntmps13, List.size_toArray, List.length_cons, List.length_nil, Nat.reduceAdd, Nat.reduceSub, Array.replicate_succ, Array.replicate_zero, List.push_toArray, List.append_toArray, List.nil_append, List.cons_append]
  gi_wp2_with (gi_at_call 21; refine (back_in F (n - 1) h21 hro _ _ _ _).mono ?_; rintro e w' ⟨rfl, rfl⟩)
  have hB4 : Below w.heap.size w ((((w.alloc (.cells #[.int .i64 lba] 3)).alloc (.cells (evC zeroEv) 28)).alloc (.cells #[.bool false] 4)).alloc (.cells #[.slice a len cap] 22)) := ((((Below.refl _ w).alloc (Nat.le_refl _) _).alloc (by simp) _).alloc (by simp; omega) _).alloc (by simp; omega) _
  have k0 : Blk ((((w.alloc (.cells #[.int .i64 lba] 3)).alloc (.cells (evC zeroEv) 28)).alloc (.cells #[.bool false] 4)).alloc (.cells #[.slice a len cap] 22)) w.heap.size #[.int .i64 lba] 3 := (((Blk.new w _ _).alloc _).alloc _).alloc _
  have k1 := (((Blk.new (w.alloc (.cells #[.int .i64 lba] 3)) (evC zeroEv) 28).alloc (.cells #[.bool false] 4)).alloc (.cells #[.slice a len cap] 22))
  have k2 := ((Blk.new ((w.alloc (.cells #[.int .i64 lba] 3)).alloc (.cells (evC zeroEv) 28)) #[.bool false] 4).alloc (.cells #[.slice a len cap] 22))
  have k3 := (Blk.new (((w.alloc (.cells #[.int .i64 lba] 3)).alloc (.cells (evC zeroEv) 28)).alloc (.cells #[.bool false] 4)) #[.slice a len cap] 22)
  have hz : ((((w.alloc (.cells #[.int .i64 lba] 3)).alloc (.cells (evC zeroEv) 28)).alloc (.cells #[.bool false] 4)).alloc (.cells #[.slice a len cap] 22)).heap.size = w.heap.size + 4 := by simp
  simp only [World.size_alloc] at k1 k2 k3
  have hev : evC zeroEv = #[Value.int .i64 0, .int .i64 0, .bool false, .int .i64 0, .int .u8 0] := rfl
  rw [← hev]
  generalize ((((w.alloc (.cells #[.int .i64 lba] 3)).alloc (.cells (evC zeroEv) 28)).alloc (.cells #[.bool false] 4)).alloc (.cells #[.slice a len cap] 22)) = W4 at *
  have hI4 : Evs (w.heap.size + 4) W4 (.slice a len cap) len f := by
    rcases hI with h | ⟨b, off, cap', h1, h2, h3⟩
    · exact .inl h
    · exact .inr ⟨b, off, cap', h1, by omega, fun j hj => (h3 j hj).below hB4 h2⟩
  refine wpIn_rangeFunc_ownH hro h1 (gf := 27) (lb := #[.pointer (some ⟨w.heap.size + 1 + 1 + 1, 0, none⟩)]) rfl h27 (enters_of Try.func27 (by kernel_rfl) rfl)
    (back_stops F (n - 1) h27 hro (by omega) (w.heap.size + 1 + 1 + 1) (w.heap.size + 4) _ len f hreach W4 (by omega) (by omega) (k3.cell (i := 0) rfl) hI4) belowK_t (belowK_b (by omega)) (Below.refl _ _) (fun _ => rfl)
    (fun pre W => (LaI w.heap.size lba pre W ∧ w.heap.size + 4 ≤ W.heap.size) ∧ Below w.heap.size w W)
    (fun c pre W => LaX w.heap.size lba c pre W ∧ Below w.heap.size w W)
    (OwnFrom.and (OwnFrom.and ((laI_own _ _).from _) (fun _ _ _ _ hs hg _ => Nat.le_trans hs hg.size)) (ownFrom_below (Nat.le_refl _) (by omega)))
    (fun c => OwnFrom.and ((laX_own _ _ c).from _) (ownFrom_below (Nat.le_refl _) (by omega)))
    ⟨⟨⟨k0, k1, k2, fun p hp => by cases hp⟩, by omega⟩, hB4⟩
    (LaA w.heap.size a len cap lba) (fun x a' => (laA_own _ _ _ _ _ x a').from _) ?assign ?body ?done ?stop
  case assign =>
    rintro l pre x W K ⟨⟨hi, hs4⟩, hB⟩ hK
    dsimp only [evV]
    gi_wp2
    have hsz := hB.size
    exact hK _ _ ((KeepsOthers.alloc _ _).from _) ((Below.refl _ W).alloc hs4 _) ⟨⟨⟨hi.1.alloc _, hi.2.1.alloc _, hi.2.2.1.alloc _, hi.2.2.2⟩, by simp; omega⟩, hB.alloc hB.size _⟩ ⟨W.heap.size, hs4, Blk.new _ _ _, rfl⟩
  case body =>
    rintro l pre x a' W hl _ ⟨⟨⟨c0, c1, c2, hno⟩, hs4⟩, hB⟩ ⟨Bx, hBx, cx, rfl⟩ hlt
    have d0 : W.cell? ⟨w.heap.size, 0, none⟩ = some (.int .i64 lba) := c0.cell rfl
    have x0 : W.cell? ⟨Bx, 0, none⟩ = some (.int .i64 x.2.at_) := cx.cell rfl
    have x1 : W.cell? ⟨Bx, 1, none⟩ = some (.int .i64 x.2.lba) := cx.cell rfl
    have x2 : W.cell? ⟨Bx, 2, none⟩ = some (.bool x.2.rd) := cx.cell rfl
    have x3 : W.cell? ⟨Bx, 3, none⟩ = some (.int .i64 x.2.ver) := cx.cell rfl
    have x4 : W.cell? ⟨Bx, 4, none⟩ = some (.int .u8 x.2.by_) := cx.cell rfl
    have y0 : W.cell? ⟨w.heap.size + 1, 0, none⟩ = some (.int .i64 0) := c1.cell rfl
    have z0 : W.frozen? ⟨w.heap.size + 1, 0, none⟩ = false := c1.frozen
    have y1 : W.cell? ⟨w.heap.size + 1, 1, none⟩ = some (.int .i64 0) := c1.cell rfl
    have z1 : W.frozen? ⟨w.heap.size + 1, 1, none⟩ = false := c1.frozen
    have y2 : W.cell? ⟨w.heap.size + 1, 2, none⟩ = some (.bool false) := c1.cell rfl
    have z2 : W.frozen? ⟨w.heap.size + 1, 2, none⟩ = false := c1.frozen
    have y3 : W.cell? ⟨w.heap.size + 1, 3, none⟩ = some (.int .i64 0) := c1.cell rfl
    have z3 : W.frozen? ⟨w.heap.size + 1, 3, none⟩ = false := c1.frozen
    have y4 : W.cell? ⟨w.heap.size + 1, 4, none⟩ = some (.int .u8 0) := c1.cell rfl
    have z4 : W.frozen? ⟨w.heap.size + 1, 4, none⟩ = false := c1.frozen
    have y5 : W.cell? ⟨w.heap.size + 1 + 1, 0, none⟩ = some (.bool false) := c2.cell rfl
    have z5 : W.frozen? ⟨w.heap.size + 1 + 1, 0, none⟩ = false := c2.frozen
    dsimp only [evV]
    gi_wp2
    · have hx1 : x.2.lba = lba := by assumption
      have hx2 : x.2.rd = false := by first | assumption | simp_all
      subst hx1
      refine ⟨((((((KeepsOthers.setCell _ _ _).trans (KeepsOthers.setCell _ _ _)).trans (KeepsOthers.setCell _ _ _)).trans (KeepsOthers.setCell _ _ _)).trans (KeepsOthers.setCell _ _ _)).trans (KeepsOthers.setCell _ _ _)).from _, ⟨rfl, pre, x, rfl, hno, rfl, hx2, ?_, ?_⟩, ?_⟩
      · exact (((((c1.set (i := 0) _).set (i := 1) _).set (i := 2) _).set (i := 3) _).set (i := 4) _).other (by omega) _
      · exact (((((c2.other (i := 0) (by omega) _).other (i := 1) (by omega) _).other (i := 2) (by omega) _).other (i := 3) (by omega) _).other (i := 4) (by omega) _).set _
      · exact (((((hB.setCell (p := ⟨w.heap.size + 1, 0, none⟩) (by simp) _).setCell (p := ⟨w.heap.size + 1, 1, none⟩) (by simp) _).setCell (p := ⟨w.heap.size + 1, 2, none⟩) (by simp) _).setCell (p := ⟨w.heap.size + 1, 3, none⟩) (by simp) _).setCell (p := ⟨w.heap.size + 1, 4, none⟩) (by simp) _).setCell (p := ⟨w.heap.size + 1 + 1, 0, none⟩) (by simp; omega) _
    · have hx2 : x.2.rd = true := by first | assumption | simp_all
      exact ⟨KeepsFrom.refl _ _, Below.refl _ _, ⟨⟨c0, c1, c2, fun p hp => (List.mem_append.1 hp).elim (hno p) fun e => by simp at e; subst e; rw [hx2]; simp⟩, hs4⟩, hB⟩
    · have hx2 : ¬ x.2.lba = lba := by first | assumption | simp_all
      exact ⟨KeepsFrom.refl _ _, Below.refl _ _, ⟨⟨c0, c1, c2, fun p hp => (List.mem_append.1 hp).elim (hno p) fun e => by simp at e; subst e; exact fun h => hx2 h.1⟩, hs4⟩, hB⟩
  case done =>
    rintro D ys W hD rfl ⟨⟨⟨c0, c1, c2, hno⟩, hs4⟩, hB⟩ hK
    have y0 : W.cell? ⟨w.heap.size + 1, 0, none⟩ = some (.int .i64 0) := c1.cell rfl
    have z0 : W.frozen? ⟨w.heap.size + 1, 0, none⟩ = false := c1.frozen
    have y1 : W.cell? ⟨w.heap.size + 1, 1, none⟩ = some (.int .i64 0) := c1.cell rfl
    have z1 : W.frozen? ⟨w.heap.size + 1, 1, none⟩ = false := c1.frozen
    have y2 : W.cell? ⟨w.heap.size + 1, 2, none⟩ = some (.bool false) := c1.cell rfl
    have z2 : W.frozen? ⟨w.heap.size + 1, 2, none⟩ = false := c1.frozen
    have y3 : W.cell? ⟨w.heap.size + 1, 3, none⟩ = some (.int .i64 0) := c1.cell rfl
    have z3 : W.frozen? ⟨w.heap.size + 1, 3, none⟩ = false := c1.frozen
    have y4 : W.cell? ⟨w.heap.size + 1, 4, none⟩ = some (.int .u8 0) := c1.cell rfl
    have z4 : W.frozen? ⟨w.heap.size + 1, 4, none⟩ = false := c1.frozen
    have y5 : W.cell? ⟨w.heap.size + 1 + 1, 0, none⟩ = some (.bool false) := c2.cell rfl
    have z5 : W.frozen? ⟨w.heap.size + 1 + 1, 0, none⟩ = false := c2.frozen
    gi_wp2
    have b1 : Blk ((((((W.setCell ⟨w.heap.size + 1, 0, none⟩ (.int .i64 0)).setCell ⟨w.heap.size + 1, 1, none⟩ (.int .i64 0)).setCell ⟨w.heap.size + 1, 2, none⟩ (.bool false)).setCell ⟨w.heap.size + 1, 3, none⟩ (.int .i64 0)).setCell ⟨w.heap.size + 1, 4, none⟩ (.int .u8 0)).setCell ⟨w.heap.size + 1 + 1, 0, none⟩ (.bool false)) (w.heap.size + 1) (evC zeroEv) 28 := (((((c1.set (i := 0) _).set (i := 1) _).set (i := 2) _).set (i := 3) _).set (i := 4) _).other (by omega) _
    have b2 : Blk ((((((W.setCell ⟨w.heap.size + 1, 0, none⟩ (.int .i64 0)).setCell ⟨w.heap.size + 1, 1, none⟩ (.int .i64 0)).setCell ⟨w.heap.size + 1, 2, none⟩ (.bool false)).setCell ⟨w.heap.size + 1, 3, none⟩ (.int .i64 0)).setCell ⟨w.heap.size + 1, 4, none⟩ (.int .u8 0)).setCell ⟨w.heap.size + 1 + 1, 0, none⟩ (.bool false)) (w.heap.size + 2) #[.bool false] 4 := (((((c2.other (i := 0) (by omega) _).other (i := 1) (by omega) _).other (i := 2) (by omega) _).other (i := 3) (by omega) _).other (i := 4) (by omega) _).set _
    have kK : ((((((W.setCell ⟨w.heap.size + 1, 0, none⟩ (.int .i64 0)).setCell ⟨w.heap.size + 1, 1, none⟩ (.int .i64 0)).setCell ⟨w.heap.size + 1, 2, none⟩ (.bool false)).setCell ⟨w.heap.size + 1, 3, none⟩ (.int .i64 0)).setCell ⟨w.heap.size + 1, 4, none⟩ (.int .u8 0)).setCell ⟨w.heap.size + 1 + 1, 0, none⟩ (.bool false)).heap[D]? = some (.deferred (some [])) := ((((((KeepsOthers.setCell _ _ _).trans (KeepsOthers.setCell _ _ _)).trans (KeepsOthers.setCell _ _ _)).trans (KeepsOthers.setCell _ _ _)).trans (KeepsOthers.setCell _ _ _)).trans (KeepsOthers.setCell _ _ _)).same D _ hK rfl
    have hB6 : Below w.heap.size w ((((((W.setCell ⟨w.heap.size + 1, 0, none⟩ (.int .i64 0)).setCell ⟨w.heap.size + 1, 1, none⟩ (.int .i64 0)).setCell ⟨w.heap.size + 1, 2, none⟩ (.bool false)).setCell ⟨w.heap.size + 1, 3, none⟩ (.int .i64 0)).setCell ⟨w.heap.size + 1, 4, none⟩ (.int .u8 0)).setCell ⟨w.heap.size + 1 + 1, 0, none⟩ (.bool false)) := (((((hB.setCell (p := ⟨w.heap.size + 1, 0, none⟩) (by simp) _).setCell (p := ⟨w.heap.size + 1, 1, none⟩) (by simp) _).setCell (p := ⟨w.heap.size + 1, 2, none⟩) (by simp) _).setCell (p := ⟨w.heap.size + 1, 3, none⟩) (by simp) _).setCell (p := ⟨w.heap.size + 1, 4, none⟩) (by simp) _).setCell (p := ⟨w.heap.size + 1 + 1, 0, none⟩) (by simp; omega) _
    generalize ((((((W.setCell ⟨w.heap.size + 1, 0, none⟩ (.int .i64 0)).setCell ⟨w.heap.size + 1, 1, none⟩ (.int .i64 0)).setCell ⟨w.heap.size + 1, 2, none⟩ (.bool false)).setCell ⟨w.heap.size + 1, 3, none⟩ (.int .i64 0)).setCell ⟨w.heap.size + 1, 4, none⟩ (.int .u8 0)).setCell ⟨w.heap.size + 1 + 1, 0, none⟩ (.bool false)) = W6 at b1 b2 kK hB6 ⊢
    have q0 := (b1.kept (grownBy_putObj' W6 D (.deferred none)) (fun r e => by cases e; exact ⟨_, kK, rfl⟩)).cell (i := 0) (v := .int .i64 0) rfl
    have q1 := (b1.kept (grownBy_putObj' W6 D (.deferred none)) (fun r e => by cases e; exact ⟨_, kK, rfl⟩)).cell (i := 1) (v := .int .i64 0) rfl
    have q2 := (b1.kept (grownBy_putObj' W6 D (.deferred none)) (fun r e => by cases e; exact ⟨_, kK, rfl⟩)).cell (i := 2) (v := .bool false) rfl
    have q3 := (b1.kept (grownBy_putObj' W6 D (.deferred none)) (fun r e => by cases e; exact ⟨_, kK, rfl⟩)).cell (i := 3) (v := .int .i64 0) rfl
    have q4 := (b1.kept (grownBy_putObj' W6 D (.deferred none)) (fun r e => by cases e; exact ⟨_, kK, rfl⟩)).cell (i := 4) (v := .int .u8 0) rfl
    have q5 := (b2.kept (grownBy_putObj' W6 D (.deferred none)) (fun r e => by cases e; exact ⟨_, kK, rfl⟩)).cell (i := 0) (v := .bool false) rfl
    refine ⟨by simp, .inl ⟨_, _, rfl, run_takeDeferred kK, ?_⟩⟩
    refine ⟨.tuple #[evV zeroEv, .bool false], ?_, .inl ⟨rfl, fun j hj => ?_⟩, hB6.trans (belowK_b (w := w) (Nat.le_refl _) W6 D _ _ (by omega) kK rfl rfl)⟩
    · simp [results, Try.f13, go_sem, q0, q1, q2, q3, q4, q5, evV, zeroEv]
    · have h := hno (bk f len (len - 1 - j)) (by simp only [upto, List.mem_map, List.mem_range]; exact ⟨len - 1 - j, by omega, rfl⟩)
      unfold bk at h
      rw [show len - 1 - (len - 1 - j) = j by omega] at h
      exact h
  case stop =>
    rintro D c pre W hD ⟨k, hk, rfl⟩ ⟨⟨rfl, ini, last, e1, e2, e3, e4, e5, e6⟩, hB⟩ hK
    gi_wp2
    obtain ⟨k', rfl⟩ : ∃ k', k = k' + 1 := by
      cases k with
      | zero => simp [upto] at e1
      | succ k' => exact ⟨k', rfl⟩
    rw [upto_succ] at e1
    obtain ⟨rfl, e7⟩ := List.append_inj' e1 rfl
    obtain rfl : bk f len k' = last := by simpa using e7
    have b1 := e5
    have b2 := e6
    have kK := hK
    obtain ⟨W6, hW6⟩ : ∃ W6, W6 = W := ⟨_, rfl⟩
    subst hW6
    simp only [bk] at b1 e3 e4
    have q0 := (b1.kept (grownBy_putObj' W6 D (.deferred none)) (fun r e => by cases e; exact ⟨_, kK, rfl⟩)).cell (i := 0) (v := .int .i64 (f (len - 1 - k')).at_) rfl
    have q1 := (b1.kept (grownBy_putObj' W6 D (.deferred none)) (fun r e => by cases e; exact ⟨_, kK, rfl⟩)).cell (i := 1) (v := .int .i64 (f (len - 1 - k')).lba) rfl
    have q2 := (b1.kept (grownBy_putObj' W6 D (.deferred none)) (fun r e => by cases e; exact ⟨_, kK, rfl⟩)).cell (i := 2) (v := .bool (f (len - 1 - k')).rd) rfl
    have q3 := (b1.kept (grownBy_putObj' W6 D (.deferred none)) (fun r e => by cases e; exact ⟨_, kK, rfl⟩)).cell (i := 3) (v := .int .i64 (f (len - 1 - k')).ver) rfl
    have q4 := (b1.kept (grownBy_putObj' W6 D (.deferred none)) (fun r e => by cases e; exact ⟨_, kK, rfl⟩)).cell (i := 4) (v := .int .u8 (f (len - 1 - k')).by_) rfl
    have q5 := (b2.kept (grownBy_putObj' W6 D (.deferred none)) (fun r e => by cases e; exact ⟨_, kK, rfl⟩)).cell (i := 0) (v := .bool true) rfl
    refine ⟨by simp, .inl ⟨_, _, rfl, run_takeDeferred kK, ?_⟩⟩
    refine ⟨.tuple #[evV (f (len - 1 - k')), .bool true], ?_, .inr ⟨len - 1 - k', by omega, rfl, e3, e4, fun j h1 h2 => ?_⟩, hB.trans (belowK_b (w := w) (Nat.le_refl _) W6 D _ _ (by omega) kK rfl rfl)⟩
    · simp [results, Try.f13, go_sem, q0, q1, q2, q3, q4, q5, evV]
    · have h := e2 (bk f len (len - 1 - j)) (by simp only [upto, List.mem_map, List.mem_range]; exact ⟨len - 1 - j, by omega, rfl⟩)
      unfold bk at h
      rw [show len - 1 - (len - 1 - j) = j by omega] at h
      exact h
end Go.Proofs
