/- Script: the builder within a printer: the kit's walks of strings.Builder's methods, turned to a builder that is a struct's first field. -/
import Derived.Shelf.Strings.Builder1
import Derived.Test.YtnikfpbhmfdkcaaDoorSxN
import Derived.Test.YtnikfpbhmfdkcaaDoorST
namespace Go.Proofs
set_option linter.unusedVariables false
set_option linter.unusedSimpArgs false
set_option linter.unusedSectionVars false
open Go Go.RowKit Go.Shelf Go.SX

/-- A printer in block b: its bytes, whether something could not be written; g: its buffer's block (b: it has none). -/
def PrB (B b g : Nat) (bs : List UInt8) (bad : Bool) (w : World) : Prop :=
  B ≤ b ∧ ∃ p v, (p = .pointer none ∨ p = .pointer (some ⟨b, 0, none⟩)) ∧ w.heap[b]? = some (.cells #[p, v, .bool bad] 46 (0, 0)) ∧ w.ownsRow B 5 1 v bs.length (Lib.byteCells bs) ∧
    ((v = .slice none 0 0 ∧ g = b) ∨ (v.ownBlock = some g ∧ bs ≠ []))

theorem ownsRow_keep {w w' : World} {B : Nat} {M : List Nat} {v : Value} {n : Nat} {xs : List Value} (h : w.ownsRow B 5 1 v n xs) (hk : KeepsTo w M w') (hM : ∀ k ∈ M, v.ownBlock ≠ some k) : w'.ownsRow B 5 1 v n xs := by
  refine ⟨h.1, ?_⟩
  rcases h.2 with h1 | ⟨g, cap, cur, rfl, h1, h2, h3⟩
  · exact .inl h1
  · refine .inr ⟨g, cap, cur, rfl, h1, ?_, h3⟩
    rw [hk.block g (Array.getElem?_eq_some_iff.1 h2).1 fun hm => hM g hm rfl]
    exact h2
theorem PrB.lt {B b g : Nat} {bs : List UInt8} {bad : Bool} {w : World} (h : PrB B b g bs bad w) : b < w.heap.size := by
  obtain ⟨_, p, v, _, hb, _⟩ := h
  exact lt_of_heap hb
theorem PrB.gblk {B b g : Nat} {bs : List UInt8} {bad : Bool} {w : World} (h : PrB B b g bs bad w) : B ≤ g ∧ (g = b ∨ ∃ c, w.heap[g]? = some (.cells c 5 (0, 0))) := by
  obtain ⟨hB, p, v, _, hb, ho, hv⟩ := h
  rcases hv with ⟨_, rfl⟩ | ⟨hv, _⟩
  · exact ⟨hB, .inl rfl⟩
  · rcases ho.2 with ⟨rfl, _⟩ | ⟨g', cap, cur, rfl, h1, h2, _⟩
    · simp [Value.ownBlock] at hv
    · simp only [Value.ownBlock, Option.some.injEq] at hv
      subst hv
      exact ⟨h1, .inr ⟨cur, h2⟩⟩
theorem PrB.glt {B b g : Nat} {bs : List UInt8} {bad : Bool} {w : World} (h : PrB B b g bs bad w) : g < w.heap.size := by
  rcases h.gblk.2 with rfl | ⟨c, h1⟩
  · exact h.lt
  · exact lt_of_heap h1
/-- Another block's number. -/
theorem PrB.ne {B b g : Nat} {bs : List UInt8} {bad : Bool} {w : World} (h : PrB B b g bs bad w) {k t : Nat} {c : Array Value} {fz : Nat × Nat} (hk : w.heap[k]? = some (.cells c t fz)) (h5 : t ≠ 5) (h46 : t ≠ 46) : k ≠ b ∧ k ≠ g := by
  have hb : k ≠ b := by
    rintro rfl
    obtain ⟨_, p, v, _, hb, _⟩ := h
    rw [hb] at hk
    cases hk
    exact h46 rfl
  refine ⟨hb, ?_⟩
  rintro rfl
  rcases h.gblk.2 with h1 | ⟨c', h1⟩
  · exact hb h1
  · rw [h1] at hk
    cases hk
    exact h5 rfl
theorem PrB.keep {B b g : Nat} {bs : List UInt8} {bad : Bool} {w w' : World} {M : List Nat} (h : PrB B b g bs bad w) (hk : KeepsTo w M w') (hb : b ∉ M) (hg : g ∉ M) : PrB B b g bs bad w' := by
  obtain ⟨hB, p, v, hp, hb1, ho, hv⟩ := h
  refine ⟨hB, p, v, hp, (hk.block b (lt_of_heap hb1) hb).trans hb1, ownsRow_keep ho hk fun k hkM e => ?_, hv⟩
  rcases hv with ⟨rfl, _⟩ | ⟨hv, _⟩
  · simp [Value.ownBlock] at e
  · rw [hv] at e
    cases e
    exact hg hkM


theorem putCell_heap {w : World} {b i : Nat} {cs : Array Value} {t : TypeId} {u : Value} (h : w.heap[b]? = some (.cells cs t (0, 0))) : (w.setCell ⟨b, i, none⟩ u).heap[b]? = some (.cells (cs.setIfInBounds i u) t (0, 0)) := by
  simp [World.setCell, Array.getElem?_modify, h]
theorem putCell_keeps (w : World) (b i : Nat) (u : Value) : KeepsTo w [b] (w.setCell ⟨b, i, none⟩ u) := by
  refine ⟨Nat.le_refl _, rfl, rfl, rfl, by simp [World.setCell], fun k hk hm => ?_⟩
  have : b ≠ k := fun e => hm (by simp [e])
  simp only [World.setCell, Array.getElem?_modify, if_neg this]

theorem info44 : (Tryd.prog.info? 44).map (·.size) = some 2 := by kernel_rfl
theorem info5 : (Tryd.prog.info? 5).map (fun i => (i.zero, i.size, i.bytes)) = some (some (.int .u8 0), 1, 1) := by kernel_rfl
theorem lies46 : liesAt Tryd.prog Tryd.prog.depth 46 (3 / Tryd.prog.cellsOf 46) 0 44 1 = true := by kernel_rfl

set_option maxHeartbeats 1000000 in
set_option maxRecDepth 100000 in
theorem copy_used (b : Nat) (w : World) (h0 : w.cell? ⟨b, 0, none⟩ = some (.pointer (some ⟨b, 0, none⟩))) :
    Calls Tryd.prog 28 #[.pointer (some ⟨b, 0, none⟩)] w fun e w' => e = .returned (.tuple #[]) ∧ w' = w := by
  obtain ⟨j, hj, _⟩ := Option.map_eq_some_iff.1 info44
  go_enter Tryd.func28, Tryd.ntmps28
  go_wp2
  rw [Lib.run_neq_ptr_same w _ Tryd.underlying41 hj]
  go_wp2
  go_end0
  exact ⟨rfl, rfl⟩

set_option maxHeartbeats 1000000 in
set_option maxRecDepth 100000 in
theorem copy_fresh (b : Nat) (w : World) (h0 : w.cell? ⟨b, 0, none⟩ = some (.pointer none)) (hsh : w.shape? b = some (46, 3)) (hfz : w.frozen? ⟨b, 0, none⟩ = false) :
    Calls Tryd.prog 28 #[.pointer (some ⟨b, 0, none⟩)] w fun e w' => e = .returned (.tuple #[]) ∧ w' = w.setCell ⟨b, 0, none⟩ (.pointer (some ⟨b, 0, none⟩)) := by
  obtain ⟨j, hj, hjs⟩ := Option.map_eq_some_iff.1 info44
  go_enter Tryd.func28, Tryd.ntmps28
  go_wp2
  rw [Lib.run_to_unsafe w ⟨b, 0, none⟩ Tryd.underlying41 Tryd.underlying76 hj (by rw [hjs]; decide) hsh (by show 0 < 3; omega)]
  simp only [Result.andThen]
  rw [Oper.upon_value]
  go_wp2
  rw [run_callFunc_extern Tryd.func33 (by kernel_rfl) (by kernel_rfl) (by kernel_rfl) (e := Extern.AbiNoEscape.same) (by kernel_rfl)]
  rw [Lib.run_noEscape]
  simp only [Result.andThen]
  rw [Oper.upon_value]
  go_wp2
  rw [Lib.run_from_unsafe w ⟨b, 0, none⟩ Tryd.underlying76 Tryd.underlying41 hj hsh lies46]
  simp only [Result.andThen]
  rw [Oper.upon_value]
  go_wp2
  go_end0
  exact ⟨rfl, rfl⟩

/-- copyCheck. -/
theorem copyCheck_ok {B b g : Nat} {bs : List UInt8} {bad : Bool} {w : World} (h : PrB B b g bs bad w) :
    Calls Tryd.prog 28 #[.pointer (some ⟨b, 0, none⟩)] w fun e w' => e = .returned (.tuple #[]) ∧ (∃ v, w'.heap[b]? = some (.cells #[.pointer (some ⟨b, 0, none⟩), v, .bool bad] 46 (0, 0)) ∧ w'.ownsRow B 5 1 v bs.length (Lib.byteCells bs) ∧ ((v = .slice none 0 0 ∧ g = b) ∨ (v.ownBlock = some g ∧ bs ≠ []))) ∧ KeepsTo w [b] w' := by
  have hne : ∀ v, w.ownsRow B 5 1 v bs.length (Lib.byteCells bs) → v.ownBlock ≠ some b := fun v ho e => by
    obtain ⟨_, p, v', _, hb, _⟩ := h
    rcases ho.2 with ⟨rfl, _⟩ | ⟨g', cap, cur, rfl, _, h2, _⟩
    · simp [Value.ownBlock] at e
    · simp only [Value.ownBlock, Option.some.injEq] at e
      subst e
      rw [hb] at h2
      cases h2
  obtain ⟨hB, p, v, hp, hb, ho, hv⟩ := h
  have hn := hne v ho
  rcases hp with rfl | rfl
  · refine (copy_fresh b w (by simp [World.cell?, hb]) (by simp [World.shape?, hb]) (Lib.frozen_of_heap hb 0)).mono ?_
    rintro e w' ⟨rfl, rfl⟩
    refine ⟨rfl, ⟨v, by simpa using putCell_heap (i := 0) (u := .pointer (some ⟨b, 0, none⟩)) hb, ownsRow_keep ho (putCell_keeps _ _ _ _) (by simpa using hn), hv⟩, putCell_keeps _ _ _ _⟩
  · refine (copy_used b w (by simp [World.cell?, hb])).mono ?_
    rintro e w' ⟨rfl, rfl⟩
    exact ⟨rfl, ⟨v, hb, ho, hv⟩, KeepsTo.refl _ _⟩

theorem keeps_grown {w w' : World} {row : Option Nat} (h : w.grownBy w' row) : KeepsTo w row.toList w' :=
  ⟨Nat.le_refl _, h.os, h.tape, h.output, h.size, fun k hk hm => h.block k hk fun e => hm (by rw [← e]; simp)⟩

/-- What stands behind an append and the store of the buffer. -/
theorem prB_put {B b g : Nat} {bs new : List UInt8} {bad : Bool} {w w1 w2 : World} {v v' : Value} (hB : B ≤ b) (hbk : w1.heap[b]? = some (.cells #[.pointer (some ⟨b, 0, none⟩), v, .bool bad] 46 (0, 0))) (ho : w1.ownsRow B 5 1 v bs.length (Lib.byteCells bs))
    (hv : (v = .slice none 0 0 ∧ g = b) ∨ (v.ownBlock = some g ∧ bs ≠ [])) (hk1 : KeepsTo w [b] w1) (ho2 : w2.ownsRow B 5 1 v' (bs ++ new).length (Lib.byteCells (bs ++ new))) (hk2 : KeepsTo w1 v.ownBlock.toList w2) (hn : new ≠ []) :
    ∃ g', PrB B b g' (bs ++ new) bad (w2.setCell ⟨b, 1, none⟩ v') ∧ KeepsTo w [b, g] (w2.setCell ⟨b, 1, none⟩ v') := by
  have hvb : v.ownBlock ≠ some b := fun e => by
    rcases ho.2 with ⟨rfl, _⟩ | ⟨g', cap, cur, rfl, _, h2, _⟩
    · simp [Value.ownBlock] at e
    · simp only [Value.ownBlock, Option.some.injEq] at e
      subst e
      rw [hbk] at h2
      cases h2
  have hvg : ∀ k ∈ v.ownBlock.toList, k = g := fun k hk => by
    rcases hv with ⟨rfl, _⟩ | ⟨h1, _⟩
    · simp [Value.ownBlock] at hk
    · rw [h1] at hk; simpa using hk
  have hb2 : w2.heap[b]? = some (.cells #[.pointer (some ⟨b, 0, none⟩), v, .bool bad] 46 (0, 0)) := (hk2.block b (lt_of_heap hbk) fun hm => hvb (by simpa using hm)).trans hbk
  have hpos : 0 < (bs ++ new).length := by
    rcases new with _ | ⟨x, r⟩
    · exact absurd rfl hn
    · simp; omega
  obtain ⟨g', cap, cur, rfl, h1, h2, h3⟩ : ∃ g' cap cur, v' = .slice (some ⟨g', 0, none⟩) (bs ++ new).length cap ∧ B ≤ g' ∧ w2.heap[g']? = some (.cells cur 5 (0, 0)) ∧ _ := by
    rcases ho2.2 with ⟨_, h0⟩ | ⟨g', cap, cur, hv', h1, h2, h3⟩
    · omega
    · exact ⟨g', cap, cur, hv', h1, h2, h3⟩
  have hgb : g' ≠ b := by rintro rfl; rw [hb2] at h2; cases h2
  refine ⟨g', ⟨hB, .pointer (some ⟨b, 0, none⟩), .slice (some ⟨g', 0, none⟩) (bs ++ new).length cap, .inr rfl, by simpa using putCell_heap (i := 1) (u := .slice (some ⟨g', 0, none⟩) (bs ++ new).length cap) hb2, ownsRow_keep ho2 (putCell_keeps _ _ _ _) (by simpa [Value.ownBlock] using hgb), .inr ⟨rfl, by simp [hn]⟩⟩, ?_⟩
  refine ⟨Nat.le_refl _, ?_, ?_, ?_, ?_, fun k hk hm => ?_⟩
  · exact hk2.os.trans hk1.os
  · exact hk2.tape.trans hk1.tape
  · exact hk2.output.trans hk1.output
  · have z1 : w.heap.size ≤ w1.heap.size := hk1.size
    have z2 : w1.heap.size ≤ w2.heap.size := hk2.size
    simp [World.setCell]; omega
  · simp only [List.mem_cons, List.not_mem_nil, or_false, not_or] at hm
    have z1 : w.heap.size ≤ w1.heap.size := hk1.size
    have z2 : w1.heap.size ≤ w2.heap.size := hk2.size
    have hk' : k < w.heap.size := hk
    rw [(putCell_keeps w2 b 1 _).block k (show k < w2.heap.size by omega) (by simpa using hm.1)]
    rw [hk2.block k (show k < w1.heap.size by omega) fun h => hm.2 (hvg k h)]
    exact hk1.block k hk (by simpa using hm.1)

set_option maxHeartbeats 2000000 in
set_option maxRecDepth 100000 in
/-- WriteByte. -/
theorem writeByte_ok {B b g : Nat} {bs : List UInt8} {bad : Bool} {w : World} (c : UInt8) (h : PrB B b g bs bad w) (hlen : bs.length + 1 ≤ 140737488355328) :
    Calls Tryd.prog 22 #[.pointer (some ⟨b, 0, none⟩), .int .u8 c.toNat] w fun e w' => e = .returned .nilIface ∧ ∃ g', PrB B b g' (bs ++ [c]) bad w' ∧ KeepsTo w [b, g] w' := by
  obtain ⟨i0, hi, hz0, hz1, hz2⟩ := info_parts info5
  have hBb := h.1
  have hcc := copyCheck_ok h
  have hBw : B ≤ w.heap.size := by have := h.lt; omega
  go_enter Tryd.func22, Tryd.ntmps22
  go_wp2_with (go_at_call 28; refine hcc.mono ?_)
  rintro e w1 ⟨rfl, ⟨v, hbk, hown, hv⟩, hb1⟩
  have c0 : w1.cell? ⟨b, 0, none⟩ = some (.pointer (some ⟨b, 0, none⟩)) := by rw [Lib.cell_of_heap hbk]; rfl
  have c1 : w1.cell? ⟨b, 1, none⟩ = some v := by rw [Lib.cell_of_heap hbk]; rfl
  have z1 : w.heap.size ≤ w1.heap.size := hb1.size
  go_wp2_with (at_builtin; refine wpList_append_own _ rfl _ _ 42 rfl B 5 i0 (.int .u8 0) 1 1 Tryd.underlying42 hi hz0 hz1 hz2 rfl (by decide) _ _ _ rfl (hown.alloc _) ⟨w1.heap.size, 0, none⟩ 1 1 [.int .u8 c.toNat] rfl rfl ?c1 ?c2 ?c3 ?c4 ?c5 ?_)
  case c1 =>
    intro j u hj
    match j, hj with
    | 0, hj => simp at hj; subst hj; simp [Addr.add]
  case c2 => intro u hu; simp at hu; subst hu; rfl
  case c3 => unfold maxLen; omega
  case c4 => omega
  case c5 => simp; omega
  intro v' w2 hown' hgrow _
  have hlt : b < w1.heap.size := lt_of_heap hbk
  have hvb : some b ≠ v.ownBlock := fun e => by
    rcases hown.2 with ⟨rfl, _⟩ | ⟨g', cap, cur, rfl, _, h2, _⟩
    · simp [Value.ownBlock] at e
    · simp only [Value.ownBlock, Option.some.injEq] at e
      subst e
      rw [hbk] at h2
      cases h2
  have hb2 : w2.heap[b]? = some (.cells #[.pointer (some ⟨b, 0, none⟩), v, .bool bad] 46 (0, 0)) := by
    rw [hgrow.block b (by simp; omega) hvb, Lib.alloc_old w1 _ b hlt]
    exact hbk
  have d0 : w2.cell? ⟨b, 0, none⟩ = some (.pointer (some ⟨b, 0, none⟩)) := by rw [Lib.cell_of_heap hb2]; rfl
  have d1 : w2.cell? ⟨b, 1, none⟩ = some v := by rw [Lib.cell_of_heap hb2]; rfl
  have f1 : w2.frozen? ⟨b, 1, none⟩ = false := Lib.frozen_of_heap hb2 1
  obtain ⟨ga, cap, rfl⟩ : ∃ ga cap, v' = .slice (some ⟨ga, 0, none⟩) (bs.length + 1) cap := by
    rcases hown'.2 with ⟨_, h0⟩ | ⟨ga, cap, cur, hv, _⟩
    · omega
    · exact ⟨ga, cap, hv⟩
  go_wp2
  go_ret
  refine ⟨rfl, ?_⟩
  have hk2 : KeepsTo w1 v.ownBlock.toList w2 := by
    have := keeps_grown hgrow
    refine ⟨Nat.le_refl _, this.os, this.tape, this.output, by have := this.size; simp at this ⊢; omega, fun k hk hm => ?_⟩
    have hk' : k < w1.heap.size := hk
    rw [this.block k (by simp; omega) hm]
    exact Lib.alloc_old w1 _ k hk'
  exact prB_put hBb hbk hown hv hb1 (by simpa [Lib.byteCells] using hown') hk2 (by simp)

set_option maxHeartbeats 2000000 in
set_option maxRecDepth 100000 in
/-- WriteString. -/
theorem writeString_okS {B b g : Nat} {bs : List UInt8} {bad : Bool} {w : World} (s : ByteArray) (h : PrB B b g bs bad w) (hl : s.data.toList ≠ []) (hlen : bs.length + s.size ≤ 140737488355328) :
    Calls Tryd.prog 19 #[.pointer (some ⟨b, 0, none⟩), .string s] w fun e w' => e = .returned (.tuple #[.int .i64 s.size, .nilIface]) ∧ ∃ g', PrB B b g' (bs ++ s.data.toList) bad w' ∧ KeepsTo w [b, g] w' := by
  obtain ⟨i0, hi, hz0, hz1, hz2⟩ := info_parts info5
  have hBb := h.1
  have hcc := copyCheck_ok h
  have hBw : B ≤ w.heap.size := by have := h.lt; omega
  go_enter Tryd.func19, Tryd.ntmps19
  go_wp2_with (go_at_call 28; refine hcc.mono ?_)
  rintro e w1 ⟨rfl, ⟨v, hbk, hown, hv⟩, hb1⟩
  have c0 : w1.cell? ⟨b, 0, none⟩ = some (.pointer (some ⟨b, 0, none⟩)) := by rw [Lib.cell_of_heap hbk]; rfl
  have c1 : w1.cell? ⟨b, 1, none⟩ = some v := by rw [Lib.cell_of_heap hbk]; rfl
  have z1 : w.heap.size ≤ w1.heap.size := hb1.size
  go_wp2_with (at_builtin; refine Lib.wpList_append_own_string _ rfl _ _ 42 9 rfl B 5 i0 Tryd.underlying42 Tryd.underlying9 hi hz0 hz1 hz2 _ _ _ rfl hown s rfl ?c3 ?c4 ?c5 ?_)
  case c3 => unfold maxLen; omega
  case c4 => omega
  case c5 => omega
  intro v' w2 hown' hgrow _
  have hlt : b < w1.heap.size := lt_of_heap hbk
  have hvb : some b ≠ v.ownBlock := fun e => by
    rcases hown.2 with ⟨rfl, _⟩ | ⟨g', cap, cur, rfl, _, h2, _⟩
    · simp [Value.ownBlock] at e
    · simp only [Value.ownBlock, Option.some.injEq] at e
      subst e
      rw [hbk] at h2
      cases h2
  have hb2 : w2.heap[b]? = some (.cells #[.pointer (some ⟨b, 0, none⟩), v, .bool bad] 46 (0, 0)) := by
    rw [hgrow.block b hlt hvb]
    exact hbk
  have d0 : w2.cell? ⟨b, 0, none⟩ = some (.pointer (some ⟨b, 0, none⟩)) := by rw [Lib.cell_of_heap hb2]; rfl
  have d1 : w2.cell? ⟨b, 1, none⟩ = some v := by rw [Lib.cell_of_heap hb2]; rfl
  have f1 : w2.frozen? ⟨b, 1, none⟩ = false := Lib.frozen_of_heap hb2 1
  obtain ⟨ao, n', cap, rfl⟩ : ∃ ao n' cap, v' = .slice ao n' cap := by
    rcases hown'.2 with ⟨hv, _⟩ | ⟨g, cap, cur, hv, _⟩
    · exact ⟨_, _, _, hv⟩
    · exact ⟨_, _, _, hv⟩
  go_wp2
  go_ret2
  refine ⟨rfl, ?_⟩
  refine prB_put hBb hbk hown hv hb1 ?_ (keeps_grown hgrow) hl
  have e1 : Lib.byteCells (bs ++ s.data.toList) = Lib.byteCells bs ++ Lib.strCells s := by
    simp [Lib.byteCells, Lib.strCells]
  rw [e1, List.length_append, show s.data.toList.length = s.size from Array.length_toList]
  exact hown'

theorem writeString_ok {B b g : Nat} {bs : List UInt8} {bad : Bool} {w : World} (l : List UInt8) (h : PrB B b g bs bad w) (hl : l ≠ []) (hlen : bs.length + l.length ≤ 140737488355328) :
    Calls Tryd.prog 19 #[.pointer (some ⟨b, 0, none⟩), .string ⟨l.toArray⟩] w fun e w' => e = .returned (.tuple #[.int .i64 l.length, .nilIface]) ∧ ∃ g', PrB B b g' (bs ++ l) bad w' ∧ KeepsTo w [b, g] w' :=
  writeString_okS ⟨l.toArray⟩ h (by simpa using hl) (by simpa [ByteArray.size] using hlen)

set_option maxHeartbeats 2000000 in
set_option maxRecDepth 100000 in
/-- Write. -/
theorem write_ok {B b g : Nat} {bs : List UInt8} {bad : Bool} {w : World} (l : List UInt8) (k off c : Nat) (h : PrB B b g bs bad w) (hl : l ≠ []) (hkb : k ≠ b) (hcell : ∀ j u, (Lib.byteCells l)[j]? = some u → w.cell? ⟨k, off + j, none⟩ = some u) (hlen : bs.length + l.length ≤ 140737488355328) :
    Calls Tryd.prog 29 #[.pointer (some ⟨b, 0, none⟩), .slice (some ⟨k, off, none⟩) l.length c] w fun e w' => e = .returned (.tuple #[.int .i64 l.length, .nilIface]) ∧ ∃ g', PrB B b g' (bs ++ l) bad w' ∧ KeepsTo w [b, g] w' := by
  obtain ⟨i0, hi, hz0, hz1, hz2⟩ := info_parts info5
  have hBb := h.1
  have hcc := copyCheck_ok h
  have hBw : B ≤ w.heap.size := by have := h.lt; omega
  go_enter Tryd.func29, Tryd.ntmps29
  go_wp2_with (go_at_call 28; refine hcc.mono ?_)
  rintro e w1 ⟨rfl, ⟨v, hbk, hown, hv⟩, hb1⟩
  have c0 : w1.cell? ⟨b, 0, none⟩ = some (.pointer (some ⟨b, 0, none⟩)) := by rw [Lib.cell_of_heap hbk]; rfl
  have c1 : w1.cell? ⟨b, 1, none⟩ = some v := by rw [Lib.cell_of_heap hbk]; rfl
  have z1 : w.heap.size ≤ w1.heap.size := hb1.size
  have hcell1 : ∀ j u, (Lib.byteCells l)[j]? = some u → w1.cell? ((⟨k, off, none⟩ : Addr).add j) = some u := fun j u hj => by
    have h1 := hcell j u hj
    have h2 := hb1.block k (World.block_lt_of_cell? _ _ h1) (by simpa using hkb)
    rw [← h1]
    have e1 : (⟨k, off, none⟩ : Addr).add j = ⟨k, off + j, none⟩ := by unfold Addr.add; split <;> simp_all
    rw [e1]
    exact World.cell?_of_block (a := ⟨k, off + j, none⟩) h2
  go_wp2_with (at_builtin; refine wpList_append_own _ rfl _ _ 42 rfl B 5 i0 (.int .u8 0) 1 1 Tryd.underlying42 hi hz0 hz1 hz2 rfl (by decide) _ _ _ rfl hown ⟨k, off, none⟩ l.length c (Lib.byteCells l) rfl (by simp [Lib.byteCells]) hcell1 ?c2 ?c3 ?c4 ?c5 ?_)
  case c2 =>
    intro u hu
    obtain ⟨x, _, rfl⟩ := List.mem_map.1 hu
    rfl
  case c3 => unfold maxLen; omega
  case c4 => omega
  case c5 => omega
  intro v' w2 hown' hgrow _
  have hlt : b < w1.heap.size := lt_of_heap hbk
  have hvb : some b ≠ v.ownBlock := fun e => by
    rcases hown.2 with ⟨rfl, _⟩ | ⟨g', cap, cur, rfl, _, h2, _⟩
    · simp [Value.ownBlock] at e
    · simp only [Value.ownBlock, Option.some.injEq] at e
      subst e
      rw [hbk] at h2
      cases h2
  have hb2 : w2.heap[b]? = some (.cells #[.pointer (some ⟨b, 0, none⟩), v, .bool bad] 46 (0, 0)) := by
    rw [hgrow.block b hlt hvb]
    exact hbk
  have d0 : w2.cell? ⟨b, 0, none⟩ = some (.pointer (some ⟨b, 0, none⟩)) := by rw [Lib.cell_of_heap hb2]; rfl
  have d1 : w2.cell? ⟨b, 1, none⟩ = some v := by rw [Lib.cell_of_heap hb2]; rfl
  have f1 : w2.frozen? ⟨b, 1, none⟩ = false := Lib.frozen_of_heap hb2 1
  obtain ⟨ao, n', cap, rfl⟩ : ∃ ao n' cap, v' = .slice ao n' cap := by
    rcases hown'.2 with ⟨hv, _⟩ | ⟨g, cap, cur, hv, _⟩
    · exact ⟨_, _, _, hv⟩
    · exact ⟨_, _, _, hv⟩
  go_wp2
  go_ret2
  refine ⟨rfl, ?_⟩
  refine prB_put hBb hbk hown hv hb1 ?_ (keeps_grown hgrow) hl
  have e1 : Lib.byteCells (bs ++ l) = Lib.byteCells bs ++ Lib.byteCells l := by simp [Lib.byteCells]
  rw [e1, List.length_append]
  exact hown'

set_option maxHeartbeats 1000000 in
set_option maxRecDepth 100000 in
/-- Len. -/
theorem len_ok {B b g : Nat} {bs : List UInt8} {bad : Bool} {w : World} (h : PrB B b g bs bad w) : Calls Tryd.prog 12 #[.pointer (some ⟨b, 0, none⟩)] w fun e w' => e = .returned (.int .i64 bs.length) ∧ w' = w := by
  obtain ⟨hB, p, v, hp, hbk, hown, hv⟩ := h
  obtain ⟨ao, cap, rfl⟩ : ∃ ao cap, v = .slice ao bs.length cap := by
    rcases hown.2 with ⟨hv, h0⟩ | ⟨g, cap, cur, hv, _⟩
    · exact ⟨none, 0, by rw [hv, h0]⟩
    · exact ⟨_, _, hv⟩
  have c1 : w.cell? ⟨b, 1, none⟩ = some (.slice ao bs.length cap) := by rw [Lib.cell_of_heap hbk]; rfl
  go_enter Tryd.func12, Tryd.ntmps12
  go_wp2
  go_ret
  exact ⟨rfl, rfl⟩

set_option maxHeartbeats 2000000 in
set_option maxRecDepth 100000 in
/-- String. -/
theorem string_ok {B b g : Nat} {bs : List UInt8} {bad : Bool} {w : World} (h : PrB B b g bs bad w) :
    Calls Tryd.prog 13 #[.pointer (some ⟨b, 0, none⟩)] w fun e w' => e = .returned (.string ⟨bs.toArray⟩) ∧ Below B w w' := by
  obtain ⟨hB, p, v, hp, hbk, hown, hv⟩ := h
  have mixed := mixed
  rcases hv with ⟨rfl, _⟩ | ⟨hv, h0⟩
  · have hbs : bs = [] := by
      rcases hown.2 with ⟨_, h0⟩ | ⟨g, cap, cur, hv, _⟩
      · exact List.length_eq_zero_iff.1 h0
      · cases hv
    subst hbs
    have hUS := fun (W : World) (q : Option Addr) => Lib.run_unsafeString_none (P := Tryd.prog) W 65 3 9 q
    have c1 : w.drew.cell? ⟨b, 1, none⟩ = some (.slice none 0 0) := by
      have : w.drew.heap[b]? = some (.cells #[p, .slice none 0 0, .bool bad] 46 (0, 0)) := hbk
      rw [Lib.cell_of_heap this]; rfl
    have hSD : (Builtin.unsafeSliceData_ #[42] 65 #[.slice none 0 0]).run Tryd.prog w.drew = .ok (.pointer none) w.drew := rfl
    go_enter Tryd.func13, Tryd.ntmps13
    go_wp2
    go_region_o
    all_goals (go_wp2; go_ret; exact ⟨rfl, Below.drew (Below.refl B w)⟩)
  · have hl0 : bs.length ≠ 0 := by simpa using h0
    obtain ⟨g', cap, cur, rfl, hbg, hg, hnc, hcm, hcs, htake⟩ : ∃ g cap cur, v = .slice (some ⟨g, 0, none⟩) bs.length cap ∧ B ≤ g ∧ w.heap[g]? = some (.cells cur 5 (0, 0)) ∧ bs.length ≤ cap ∧ cap ≤ maxLen ∧ cur.size = cap * 1 ∧ cur.toList.take (bs.length * 1) = Lib.byteCells bs := by
      rcases hown.2 with ⟨_, hz⟩ | ⟨g, cap, cur, hv, r⟩
      · exact absurd hz hl0
      · exact ⟨g, cap, cur, hv, r⟩
    have c1 : w.drew.cell? ⟨b, 1, none⟩ = some (.slice (some ⟨g', 0, none⟩) bs.length cap) := by
      have : w.drew.heap[b]? = some (.cells #[p, .slice (some ⟨g', 0, none⟩) bs.length cap, .bool bad] 46 (0, 0)) := hbk
      rw [Lib.cell_of_heap this]; rfl
    have hSD : (Builtin.unsafeSliceData_ #[42] 65 #[.slice (some ⟨g', 0, none⟩) bs.length cap]).run Tryd.prog w.drew = .ok (.pointer (some ⟨g', 0, none⟩)) w.drew :=
      Lib.run_unsafeSliceData_row _ _ _ _ _ _ (by omega)
    have hUS : (Builtin.unsafeString_ #[65, 3] 9 #[.pointer (some ⟨g', 0, none⟩), .int .i64 bs.length]).run Tryd.prog w.drew = .ok (.string ⟨bs.toArray⟩) (w.drew.freeze ⟨g', 0, none⟩ bs.length) := by
      refine Lib.run_unsafeString_row w.drew 65 3 9 5 Tryd.underlying65 (by kernel_rfl) g' cur.size (by have hg' : w.drew.heap[g']? = some (.cells cur 5 (0, 0)) := hg; simp [World.shape?, hg']) bs h0 (by omega) (by unfold maxLen at hcm; omega) ?_
      intro j x hx
      exact hown.cells (g := g') rfl j (.int .u8 x.toNat) (by simp [Lib.byteCells, hx])
    go_enter Tryd.func13, Tryd.ntmps13
    go_wp2
    go_region_o
    all_goals (go_wp2; go_ret; exact ⟨rfl, Lib.below_freeze (Below.drew (Below.refl B w)) (p := ⟨g', 0, none⟩) hbg _⟩)
end Go.Proofs
