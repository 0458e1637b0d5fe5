/-
  Part 11: append; a frame laid anew in the middle of a walk. Holds for every program.
-/
import Derived.Test.YtnmjdelnllchdaaSxA
namespace Go.SX
set_option linter.unusedVariables false
set_option linter.unusedSimpArgs false
set_option linter.unusedSectionVars false
open Go Go.RowKit

/-! ### A frame laid anew -/
def mutB (H : Hp) : List Nat := (H.filter (·.2.1)).map (·.1)

theorem mem_mutB {H : Hp} {i b : Nat} {o : SO} (h : H[i]? = some (b, true, o)) : b ∈ mutB H :=
  List.mem_map.2 ⟨_, List.mem_filter.2 ⟨List.mem_of_getElem? h, rfl⟩, rfl⟩

theorem of_mem_mutB {H : Hp} {b : Nat} (h : b ∈ mutB H) : ∃ (i : Nat) (o : SO), H[i]? = some (b, true, o) := by
  obtain ⟨⟨b', m, o⟩, he, rfl⟩ := List.mem_map.1 h
  obtain ⟨h1, h2⟩ := List.mem_filter.1 he
  simp only at h2
  subst h2
  obtain ⟨i, hi⟩ := List.getElem?_of_mem h1
  exact ⟨i, o, hi⟩

def frameAt (w : World) (H : Hp) : Fr := ⟨w, w.heap.size, mutB H⟩

theorem RepX.rebase {F : Fr} {st : St} {a : Act} {w : World} (h : RepX F st a w) : RepX (frameAt w st.hp) st a w :=
  ⟨h.env, h.hp, fun _ _ _ hi => .inr (mem_mutB hi), h.nd, rfl, ⟨Nat.le_refl _, rfl, rfl, rfl, Nat.le_refl _, fun _ _ _ => rfl⟩⟩

theorem Keeps.compose {F : Fr} {H : Hp} {w w' : World} (h : Keeps F w) (hmu : ∀ (i b : Nat) (o : SO), H[i]? = some (b, true, o) → F.B ≤ b ∨ b ∈ F.M) (h' : Keeps (frameAt w H) w') : Keeps F w' :=
  ⟨h.hB, h'.os.trans h.os, h'.tape.trans h.tape, h'.output.trans h.output, Nat.le_trans h.size h'.size, fun k hk hm => by
    have h1 : k ∉ mutB H := fun hkm => by
      obtain ⟨i, o, hi⟩ := of_mem_mutB hkm
      rcases hmu i k o hi with h2 | h2
      · omega
      · exact hm h2
    rw [h'.block k (Nat.lt_of_lt_of_le hk (Nat.le_trans h.hB h.size)) h1]
    exact h.block k hk hm⟩

/-- Back to the frame of the whole. -/
theorem RepX.unbase {F : Fr} {st st' : St} {a a' : Act} {w w' : World} (h : RepX F st a w) (h' : RepX (frameAt w st.hp) st' a' w') : RepX F st' a' w' :=
  ⟨h'.env, h'.hp, fun i b o hi => by
    rcases h'.mu i b o hi with h1 | h1
    · have := h.keeps.hB
      have := h.keeps.size
      exact .inl (by simp only [frameAt] at h1; omega)
    · obtain ⟨j, o', hj⟩ := of_mem_mutB h1
      exact h.mu j b o' hj, h'.nd, rfl, h.keeps.compose h.mu h'.keeps⟩

/-- A block that no walk may have turned. -/
theorem RepX.old {st' : St} {H : Hp} {a' : Act} {w w' : World} (h' : RepX (frameAt w H) st' a' w') {b : Nat} (hb : b < w.heap.size) (hm : b ∉ mutB H) : w'.heap[b]? = w.heap[b]? :=
  h'.keeps.block b hb hm

/-! ### append -/
theorem growBy_le (newLen : Nat) : ∀ (r c : Nat), c < newLen → Builtin.growBy newLen r c ≤ 2 * newLen + 192
  | 0, c, h => by simp [Builtin.growBy]; omega
  | r + 1, c, h => by
    simp only [Builtin.growBy]
    split
    · omega
    · rcases Nat.lt_or_ge (c + (c + 768) / 4) newLen with h1 | h1
      · exact growBy_le newLen r _ h1
      · cases r with
        | zero => simp only [Builtin.growBy]; omega
        | succ r => simp only [Builtin.growBy, if_pos h1]; omega

theorem nextslicecap_le {need cap : Nat} (h : cap < need) : Builtin.nextslicecap need cap ≤ 2 * need + 192 := by
  unfold Builtin.nextslicecap
  split
  · omega
  · split
    · omega
    · exact growBy_le need 4 cap h

theorem zeroCells_get {z : Array Value} {n j : Nat} (h : j < n * z.size) : (Builtin.zeroCells z n)[j]? = z[j % z.size]? := by
  have hz : 0 < z.size := by
    rcases Nat.eq_zero_or_pos z.size with h0 | h0
    · rw [h0] at h; simp at h
    · exact h0
  have h2 : j % z.size < z.size := Nat.mod_lt _ hz
  simp only [Builtin.zeroCells, Array.getElem?_map]
  rw [Array.getElem?_range]
  simp only [h, if_true, Option.map_some]
  rw [getElem!_pos z _ h2, Array.getElem?_eq_getElem h2]

theorem ArrRep.get {c : Array Value} {o0 n : Nat} {row : Nat → List SV} {sz : Nat} (h : ArrRep c o0 n row sz) {q : Nat} (hq : q < n * sz) : c[o0 + q]? = (denL (row (q / sz)))[q % sz]? := by
  have hs : 0 < sz := by
    rcases Nat.eq_zero_or_pos sz with h0 | h0
    · rw [h0] at hq; simp at hq
    · exact h0
  have h1 : q / sz < n := Nat.div_lt_of_lt_mul (by rw [Nat.mul_comm]; exact hq)
  have := (h.2 (q / sz) h1).2 (q % sz) (Nat.mod_lt _ hs)
  rw [← this]
  congr 1
  have := Nat.div_add_mod q sz
  rw [Nat.mul_comm] at this
  omega

/-- Rows of a slice's array. -/
def rowsOf (row : Nat → List SV) (base n : Nat) : List Value := (List.range n).flatMap fun j => denL (row (base + j))

theorem rowsOf_length {row : Nat → List SV} {sz : Nat} : ∀ {n base : Nat}, (∀ j, j < n → (row (base + j)).length = sz) → (rowsOf row base n).length = n * sz
  | 0, _, _ => by simp [rowsOf]
  | n + 1, base, h => by
    have ih := rowsOf_length (row := row) (sz := sz) (n := n) (base := base) (fun j hj => h j (by omega))
    have h2 := h n (by omega)
    simp only [rowsOf] at ih ⊢
    rw [List.range_succ, List.flatMap_append, List.length_append, ih]
    simp [denL_length, h2, Nat.add_mul]

theorem rowsOf_get {row : Nat → List SV} {sz : Nat} : ∀ {n base j s : Nat}, (∀ j, j < n → (row (base + j)).length = sz) → j < n → s < sz → (rowsOf row base n)[j * sz + s]? = (denL (row (base + j)))[s]?
  | 0, _, _, _, _, hj, _ => by omega
  | n + 1, base, j, s, h, hj, hs => by
    have hl := rowsOf_length (row := row) (sz := sz) (n := n) (base := base) (fun j hj => h j (by omega))
    simp only [rowsOf] at hl ⊢
    rw [List.range_succ, List.flatMap_append]
    by_cases hjn : j < n
    · rw [List.getElem?_append_left (by rw [hl]; have := idx_bound (sz := sz) hjn; omega)]
      exact rowsOf_get (n := n) (fun j hj => h j (by omega)) hjn hs
    · have : j = n := by omega
      subst this
      rw [List.getElem?_append_right (by rw [hl]; omega), hl]
      simp

/-- Loading some rows. -/
theorem run_loadRows {P : Program} {w : World} {b : Nat} {c : Array Value} {t : TypeId} {fz : Nat × Nat} {o0 N : Nat} {row : Nat → List SV} {sz : Nat} (hb : w.heap[b]? = some (.cells c t fz)) (hr : ArrRep c o0 N row sz) {base n : Nat} (hn : base + n ≤ N) :
    (loadCells ⟨b, o0 + base * sz, none⟩ (n * sz)).run P w = .ok (rowsOf row base n).toArray w := by
  have hlen : ∀ j, j < n → (row (base + j)).length = sz := fun j hj => (hr.2 (base + j) (by omega)).1
  have hl := rowsOf_length hlen
  rw [← hl]
  refine run_loadCells _ fun q hq => ?_
  rw [hl] at hq
  have hs : 0 < sz := by
    rcases Nat.eq_zero_or_pos sz with h0 | h0
    · rw [h0] at hq; simp at hq
    · exact h0
  have h1 : q / sz < n := Nat.div_lt_of_lt_mul (by rw [Nat.mul_comm]; exact hq)
  have h2 := Nat.mod_lt q hs
  have h3 : q = q / sz * sz + q % sz := by have := Nat.div_add_mod q sz; rw [Nat.mul_comm] at this; omega
  rw [cell_of hb, h3, rowsOf_get hlen h1 h2, ← (hr.2 (base + q / sz) (by omega)).2 _ h2]
  congr 1
  rw [Nat.add_mul]; omega

/-- Cells as marked values. -/
def cellsV' (z : Array Value) : List SV := z.toList.map .v

def appRow (row row2 : Nat → List SV) (len base2 n : Nat) (z : List SV) : Nat → List SV := fun q => if q < len then row q else if q < len + n then row2 (base2 + (q - len)) else z

/-- The array behind an append that grows. -/
theorem grown_rep {row row2 : Nat → List SV} {sz len base2 n cap : Nat} {z : Array Value} (h1 : ∀ j, j < len → (row (0 + j)).length = sz) (h2 : ∀ j, j < n → (row2 (base2 + j)).length = sz) (hz : z.size = sz) (hc : len + n ≤ cap) :
    ArrRep ((rowsOf row 0 len).toArray ++ (rowsOf row2 base2 n).toArray ++ Builtin.zeroCells z (cap - (len + n))) 0 cap (appRow row row2 len base2 n (cellsV' z)) sz := by
  have l1 := rowsOf_length h1
  have l2 := rowsOf_length h2
  have l3 : (Builtin.zeroCells z (cap - (len + n))).size = (cap - (len + n)) * sz := by simp [Builtin.zeroCells, hz]
  have e1 : len * sz + n * sz + (cap - (len + n)) * sz = cap * sz := by rw [← Nat.add_mul, ← Nat.add_mul]; congr 1; omega
  refine ⟨by simp [l1, l2, l3]; omega, fun j hj => ?_⟩
  have hb := idx_bound (sz := sz) hj
  simp only [Nat.zero_add]
  unfold appRow
  by_cases hj1 : j < len
  · rw [if_pos hj1]
    refine ⟨by simpa using h1 j hj1, fun s hs => ?_⟩
    have hb1 := idx_bound (sz := sz) hj1
    rw [Array.getElem?_append_left (by simp [l1, l2]; omega), Array.getElem?_append_left (by simp [l1]; omega)]
    have := rowsOf_get h1 hj1 hs
    simpa using this
  · rw [if_neg hj1]
    by_cases hj2 : j < len + n
    · rw [if_pos hj2]
      have h3 : j - len < n := by omega
      refine ⟨h2 _ h3, fun s hs => ?_⟩
      have hb1 := idx_bound (sz := sz) h3
      have e2 : j * sz = len * sz + (j - len) * sz := by rw [← Nat.add_mul]; congr 1; omega
      rw [Array.getElem?_append_left (by simp [l1, l2]; omega), Array.getElem?_append_right (by simp [l1]; omega)]
      have := rowsOf_get h2 h3 hs
      rw [← this]
      simp only [List.getElem?_toArray, List.size_toArray, l1]
      congr 1; omega
    · rw [if_neg hj2]
      refine ⟨by simp [cellsV', hz], fun s hs => ?_⟩
      have e2 : j * sz = (len + n) * sz + (j - (len + n)) * sz := by rw [← Nat.add_mul]; congr 1; omega
      have e3 : (len + n) * sz = len * sz + n * sz := Nat.add_mul _ _ _
      have h3 : j - (len + n) < cap - (len + n) := by omega
      have hb1 := idx_bound (sz := sz) h3
      rw [Array.getElem?_append_right (by simp [l1, l2]; omega)]
      have e4 : j * sz + s - ((rowsOf row 0 len).toArray ++ (rowsOf row2 base2 n).toArray).size = (j - (len + n)) * sz + s := by simp [l1, l2]; omega
      rw [e4, zeroCells_get (by rw [hz]; omega), hz]
      have e5 : ((j - (len + n)) * sz + s) % sz = s := by rw [Nat.mul_comm, Nat.mul_add_mod]; exact Nat.mod_eq_of_lt hs
      rw [e5]
      simp [cellsV', denL_map_v]


/-- A slice that is appended to: nil, or a slice from an array's beginning. -/
structure AppArgs (P : Program) (w : World) (e : TypeId) (te : TI) (src : Value) (row2 : Nat → List SV) (base2 n : Nat) : Prop where
  te_ok : te.ok P e
  zsz : te.zero.cells.size = te.sz
  by0 : te.by_ ≠ 0
  srcs : ∃ b2 c2 cap2 t2 fz2 o2 N2, src = .slice (some ⟨b2, o2 + base2 * te.sz, none⟩) n cap2 ∧ w.heap[b2]? = some (.cells c2 t2 fz2) ∧ ArrRep c2 o2 N2 row2 te.sz ∧ base2 + n ≤ N2

theorem AppArgs.len2 {P : Program} {w : World} {e : TypeId} {te : TI} {src : Value} {row2 : Nat → List SV} {base2 n : Nat} (h : AppArgs P w e te src row2 base2 n) : ∀ j, j < n → (row2 (base2 + j)).length = te.sz := by
  obtain ⟨b2, c2, cap2, t2, fz2, o2, N2, _, _, hr, hn⟩ := h.srcs
  exact fun j hj => (hr.2 _ (by omega)).1

theorem run_first {P : Program} {w : World} {e : TypeId} {te : TI} {src : Value} {row2 : Nat → List SV} {base2 n : Nat} (h : AppArgs P w e te src row2 base2 n) :
    (Builtin.firstCells te.sz n src).run P w = .ok (rowsOf row2 base2 n).toArray w := by
  obtain ⟨b2, c2, cap2, t2, fz2, o2, N2, rfl, hb, hr, hn⟩ := h.srcs
  simp only [Builtin.firstCells]
  exact run_loadRows hb hr hn

theorem run_lenOf {P : Program} {w : World} {e : TypeId} {te : TI} {src : Value} {row2 : Nat → List SV} {base2 n : Nat} (h : AppArgs P w e te src row2 base2 n) :
    (Builtin.lenOf src).run P w = .ok n w := by
  obtain ⟨b2, c2, cap2, t2, fz2, o2, N2, rfl, hb, hr, hn⟩ := h.srcs
  simp [Builtin.lenOf]

theorem mem_rowsOf {row : Nat → List SV} {base n : Nat} {v : Value} (h : v ∈ rowsOf row base n) : ∃ j, j < n ∧ ∃ x ∈ row (base + j), v = den x := by
  simp only [rowsOf, List.mem_flatMap, List.mem_range] at h
  obtain ⟨j, hj, hv⟩ := h
  rw [denL_map] at hv
  obtain ⟨x, hx, rfl⟩ := List.mem_map.1 hv
  exact ⟨j, hj, x, hx, rfl⟩

/-- There is room: the array itself is written. -/
theorem run_append_room {P : Program} {w : World} {t t' e e' ty : TypeId} {te : TI} {src : Value} {row2 : Nat → List SV} {base2 n b len cap : Nat} {c : Array Value} {u : TypeId} {N : Nat} {row : Nat → List SV}
    (ht : P.underlying t = some (.slice e)) (ht' : P.underlying t' = some (.slice e')) (h : AppArgs P w e te src row2 base2 n) (hb : w.heap[b]? = some (.cells c u (0, 0))) (hr : ArrRep c 0 N row te.sz) (hcap : cap ≤ N) (hroom : len + n ≤ cap)
    (hna : ∀ j, j < n → ∀ x ∈ row2 (base2 + j), NotAgg (den x)) :
    (Builtin.append_ #[t, t'] ty #[.slice (some ⟨b, 0, none⟩) len cap, src]).run P w = .ok (.slice (some ⟨b, 0, none⟩) (len + n) cap) (putBlk w b (.cells (putAll c (len * te.sz) (rowsOf row2 base2 n)) u (0, 0))) := by
  have hst := run_storeCells (P := P) (rowsOf row2 base2 n) w c (len * te.sz) 0 hb (by
    rw [rowsOf_length h.len2, Nat.add_zero, ← Nat.add_mul]
    have h1 := hr.1
    have h2 : (len + n) * te.sz ≤ N * te.sz := Nat.mul_le_mul_right _ (by omega)
    omega) (fun v hv => by
    obtain ⟨j, hj, x, hx, rfl⟩ := mem_rowsOf hv
    exact hna j hj x hx)
  have hi : (TypeDesc.slice e' matches .int _) = false := rfl
  simp only [Builtin.append_, Sem.run_bind, run_underlying ht, Result.andThen_ok, run_sizeOf' h.te_ok, List.getElem?_toArray, List.getElem?_cons_zero, List.getElem?_cons_succ, run_underlying ht', Sem.run_pure, Bool.false_eq_true, if_false,
    run_lenOf h, if_pos hroom, Bool.not_false, if_true, run_first h, add_none, Nat.zero_add, hst, Nat.add_zero]

/-- There is none: a new array. -/
theorem run_append_grow {P : Program} {w : World} {t t' e e' ty : TypeId} {te : TI} {src dst : Value} {row2 : Nat → List SV} {base2 n len cap : Nat} {row : Nat → List SV} {ad : Option Addr}
    (ht : P.underlying t = some (.slice e)) (ht' : P.underlying t' = some (.slice e')) (h : AppArgs P w e te src row2 base2 n) (hd : dst = .slice ad len cap)
    (hold : (Builtin.firstCells te.sz len dst).run P { w with drawn := w.drawn + 1 } = .ok (rowsOf row 0 len).toArray { w with drawn := w.drawn + 1 }) (hroom : cap < len + n) (hbig : (2 * (len + n) + 192) * te.by_ ≤ 281474976710656) :
    ∃ newCap, len + n ≤ newCap ∧ (Builtin.append_ #[t, t'] ty #[dst, src]).run P w =
      .ok (.slice (some ⟨w.heap.size, 0, none⟩) (len + n) newCap) (({ w with drawn := w.drawn + 1 } : World).alloc (.cells ((rowsOf row 0 len).toArray ++ (rowsOf row2 base2 n).toArray ++ Builtin.zeroCells te.zero.cells (newCap - (len + n))) e)) := by
  obtain ⟨xi, hi1, hi2, hi3, hi4⟩ := h.te_ok.info
  have hinfo : ∀ w, (typeInfo e).run P w = .ok xi w := fun w => by simp [typeInfo, hi1]
  have hnr : ¬ len + n ≤ cap := by omega
  have hnb : ¬ (((len + n : Nat) : Int) > IntKind.i64.max ∧ (false = true ∨ xi.bytes = 0)) := by
    rintro ⟨_, h1 | h1⟩
    · cases h1
    · exact h.by0 (by rw [← hi3]; exact h1)
  have hcapb : ¬ Builtin.nextslicecap (len + n) cap * xi.bytes > 2 ^ 48 := by
    have h1 := nextslicecap_le hroom
    have h2 : Builtin.nextslicecap (len + n) cap * xi.bytes ≤ (2 * (len + n) + 192) * te.by_ := by rw [hi3]; exact Nat.mul_le_mul_right _ h1
    omega
  refine ⟨(Question.appendCap (len + n) cap e).cut (w.tape w.drawn (.appendCap (len + n) cap e)), Nat.le_add_right _ _, ?_⟩
  have hch : (choose (.appendCap (len + n) cap e)).run P w = .ok ((Question.appendCap (len + n) cap e).cut (w.tape w.drawn (.appendCap (len + n) cap e))) { w with drawn := w.drawn + 1 } := by
    simp [choose, Sem.run, Question.forced]
  have hroomR : ∀ q (w : World), (askRoom q).run P w = .ok () w := fun q w => by
    unfold askRoom
    split
    · simp [mark, Sem.run]
    · rfl
  have hfirst : (Builtin.firstCells te.sz n src).run P { w with drawn := w.drawn + 1 } = .ok (rowsOf row2 base2 n).toArray { w with drawn := w.drawn + 1 } :=
    run_first (w := { w with drawn := w.drawn + 1 }) ⟨h.te_ok, h.zsz, h.by0, h.srcs⟩
  subst hd
  simp only [Builtin.append_, Sem.run_bind, run_underlying ht, Result.andThen_ok, run_sizeOf' h.te_ok, List.getElem?_toArray, List.getElem?_cons_zero, List.getElem?_cons_succ, run_underlying ht', Sem.run_pure, Bool.false_eq_true, if_false,
    run_lenOf h, if_neg hnr, Bool.not_false, if_true, hinfo]
  rw [if_neg (by simpa using hnb)]
  simp only [Sem.run_pure, Sem.run_bind, hinfo, Result.andThen_ok, if_neg hcapb, hch, hroomR, hold, hfirst, run_zeroValue' h.te_ok, newRow, newObj, Sem.run]
  rfl


/-! ### append in a walk -/
/-- What an append is made with: where it goes, what comes. -/
def evApp (st : St) : Op → Option (SV × SV × TypeId × TypeId)
  | .call { callee := .builtin .append, args, argTypes } => match opds st 0 args.toList, argTypes.toList with
    | some [x, y], [t, t'] => some (x, y, t, t')
    | _, _ => none
  | _ => none

theorem evApp_sound {P : Program} {st : St} {o : Oper} {x y : SV} {t t' : TypeId} {a : Act} (he : EnvRep st a) (h : evApp st o.op = some (x, y, t, t')) (w : World) :
    (execOp a.eval o).run P w = ((Builtin.append_ #[t, t'] o.type #[den x, den y]).run P w).andThen fun v w' => .ok (.value v) w' := by
  unfold evApp at h
  split at h
  · rename_i args ats hop
    split at h
    · rename_i x' y' t1 t2 hl hts
      cases h
      have e : args.map a.eval = #[den x, den y] := by
        apply Array.toList_inj.1
        rw [Array.toList_map]
        exact (opds_sound he (c := 0) rfl _ _ hl).trans (by simp [denL])
      have e2 : ats = #[t, t'] := by apply Array.toList_inj.1; exact hts
      simp only [execOp, hop, resolve, e, e2, Sem.run_bind, Sem.run_pure, Result.andThen_ok, invoke, builtin]
    · cases h
  · cases h

theorem ArrRep.of_room {c : Array Value} {N : Nat} {row row2 : Nat → List SV} {sz base2 n len : Nat} (h : ArrRep c 0 N row sz) (hl : len + n ≤ N) (h2 : ∀ j, j < n → (row2 (base2 + j)).length = sz) :
    ArrRep (putAll c (len * sz) (rowsOf row2 base2 n)) 0 N (fun q => if q < len then row q else if q < len + n then row2 (base2 + (q - len)) else row q) sz := by
  obtain ⟨h1, h3⟩ := h
  have l2 := rowsOf_length h2
  have hfit : len * sz + (rowsOf row2 base2 n).length ≤ c.size := by
    rw [l2, ← Nat.add_mul]
    have h2 : (len + n) * sz ≤ N * sz := Nat.mul_le_mul_right _ hl
    omega
  refine ⟨by rw [putAll_size]; exact h1, fun j hj => ?_⟩
  simp only [Nat.zero_add] at h3 ⊢
  obtain ⟨h4, h5⟩ := h3 j hj
  by_cases hj1 : j < len
  · simp only [hj1, if_true]
    refine ⟨h4, fun s hs => ?_⟩
    have := idx_bound (sz := sz) hj1
    rw [putAll_get _ _ _ _ hfit, if_neg (by omega)]
    exact h5 s hs
  · by_cases hj2 : j < len + n
    · simp only [hj1, hj2, if_true, if_false]
      have hj3 : j - len < n := by omega
      refine ⟨h2 _ hj3, fun s hs => ?_⟩
      have hb := idx_bound (sz := sz) hj3
      have e2 : j * sz = len * sz + (j - len) * sz := by rw [← Nat.add_mul]; congr 1; omega
      rw [putAll_get _ _ _ _ hfit, if_pos (by rw [l2]; omega), ← rowsOf_get h2 hj3 hs]
      congr 1; omega
    · simp only [hj1, hj2, if_false]
      refine ⟨h4, fun s hs => ?_⟩
      have e2 : j * sz = (len + n) * sz + (j - (len + n)) * sz := by rw [← Nat.add_mul]; congr 1; omega
      have e3 : (len + n) * sz = len * sz + n * sz := Nat.add_mul _ _ _
      rw [putAll_get _ _ _ _ hfit, if_neg (by rw [l2]; omega)]
      exact h5 s hs

/-- The state's list with a block in the place i (at its end: a new one). -/
def putHp (H : Hp) (i : Nat) (x : Nat × Bool × SO) : Hp := if i < H.length then H.set i x else H ++ [x]

theorem HpAll.append {F : Fr} {w : World} {x : Nat × Bool × SO} : ∀ {H : Hp}, HpAll F w H → x.2.2.rep w x.1 → (x.2.1 = true → F.B ≤ x.1 ∨ x.1 ∈ F.M) → (∀ e ∈ H, e.1 ≠ x.1) → HpAll F w (H ++ [x])
  | [], _, h1, h2, _ => ⟨⟨h1, h2, fun e he => by cases he⟩, trivial⟩
  | (b, m, o) :: r, h, h1, h2, h3 => ⟨⟨h.1.1, h.1.2.1, fun e he => by
      rcases List.mem_append.1 he with he | he
      · exact h.1.2.2 e he
      · simp only [List.mem_singleton] at he
        subst he
        exact h3 _ (List.mem_cons_self ..)⟩, HpAll.append h.2 h1 h2 (fun e he => h3 e (List.mem_cons_of_mem _ he))⟩

theorem HpAll.of_mem {F : Fr} {w : World} {H : Hp} {s k : Nat} (h : MemRep F H s k w) : HpAll F w H := h.all


/-- A new block in the place of one that is let go. -/
theorem MemRep.renew {F : Fr} {H : Hp} {s k : Nat} {w w' : World} (h : MemRep F H s k w) {i : Nat} {ob : Obj} {new : SO} (hw : w'.heap = w.heap.push ob) (hk : Keeps F w') (hnew : new.rep w' w.heap.size) :
    MemRep F (putHp H i (w.heap.size, true, new)) w'.heap.size 0 w' := by
  have hsz : w'.heap.size = w.heap.size + 1 := by rw [hw]; simp
  have hold : ∀ b, b < w.heap.size → w'.heap[b]? = w.heap[b]? := fun b hb => by rw [hw, Array.getElem?_push, if_neg (by omega)]
  have hB : F.B ≤ w.heap.size := Nat.le_trans h.kp.hB h.kp.size
  unfold putHp
  split
  · refine ⟨fun j c m t hj => ?_, fun j c t hj => ?_, fun j j' x y hj hj' hxy => ?_, rfl, hk⟩
    · rcases get_set hj with ⟨_, h1, _⟩ | ⟨_, h1⟩
      · cases h1; exact hnew
      · exact SO.rep_same (h.hp j c m t h1) (hold c (SO.rep_lt (h.hp j c m t h1)))
    · rcases get_set hj with ⟨_, h1, _⟩ | ⟨_, h1⟩
      · cases h1; exact .inl hB
      · exact h.mu j c t h1
    · rcases get_set hj with ⟨e1, h1, _⟩ | ⟨n1, h1⟩ <;> rcases get_set hj' with ⟨e2, h2, _⟩ | ⟨n2, h2⟩
      · omega
      · subst h1
        have := SO.rep_lt (h.hp j' y.1 y.2.1 y.2.2 h2)
        rw [← hxy] at this
        exact absurd this (by simp)
      · subst h2
        have := SO.rep_lt (h.hp j x.1 x.2.1 x.2.2 h1)
        rw [hxy] at this
        exact absurd this (by simp)
      · exact h.nd j j' x y h1 h2 hxy
  · refine ⟨fun j c m t hj => ?_, fun j c t hj => ?_, fun j j' x y hj hj' hxy => ?_, rfl, hk⟩
    · rcases get_append_one hj with h1 | ⟨_, h1⟩
      · exact SO.rep_same (h.hp j c m t h1) (hold c (SO.rep_lt (h.hp j c m t h1)))
      · cases h1; exact hnew
    · rcases get_append_one hj with h1 | ⟨_, h1⟩
      · exact h.mu j c t h1
      · cases h1; exact .inl hB
    · rcases get_append_one hj with h1 | ⟨e1, h1⟩ <;> rcases get_append_one hj' with h2 | ⟨e2, h2⟩
      · exact h.nd j j' x y h1 h2 hxy
      · subst h2
        have := SO.rep_lt (h.hp j x.1 x.2.1 x.2.2 h1)
        rw [hxy] at this
        exact absurd this (by simp)
      · subst h1
        have := SO.rep_lt (h.hp j' y.1 y.2.1 y.2.2 h2)
        rw [← hxy] at this
        exact absurd this (by simp)
      · omega

/-- What an append does, at a goal on memory alone. -/
theorem append_mem {P : Program} {tt : List (Nat × TI)} (htt : TTok P tt) {F : Fr} {st : St} {w : World} (hm : MemRep F st.hp st.s st.k w) {x y : SV} {t t' e e' ty : TypeId} {ti ti' te : TI} (ht : lookT tt t = some ti) (hd1 : ti.d = .slice e) (ht' : lookT tt t' = some ti') (hd2 : ti'.d = .slice e')
    (hte : lookT tt e = some te) (hz : te.zero.cells.size = te.sz) (hby : te.by_ ≠ 0) {j b2 o2 base2 n cap2 N2 : Nat} {m2 : Bool} {row2 : Nat → List SV} {t2 : TypeId} {fz2 : Nat × Nat} (hy : y = .sl j b2 o2 base2 n cap2 te.sz) (hj : st.hp[j]? = some (b2, m2, .arr o2 N2 row2 te.sz t2 fz2)) (hn2 : base2 + n ≤ N2)
    {i b len cap N : Nat} {row : Nat → List SV} {u : TypeId} (hx : (x = .v (.slice none 0 0) ∧ len = 0 ∧ cap = 0 ∧ i = st.hp.length) ∨ (x = .sl i b 0 0 len cap te.sz ∧ st.hp[i]? = some (b, true, .arr 0 N row te.sz u (0, 0)) ∧ cap ≤ N ∧ len ≤ cap))
    (hpos : 0 < n) (hbig : (2 * (len + n) + 192) * te.by_ ≤ 281474976710656) (hna : ∀ j, j < n → ∀ x ∈ row2 (base2 + j), NotAgg (den x)) :
    ∃ w' b' cap' N' row' u', (Builtin.append_ #[t, t'] ty #[den x, den y]).run P w = .ok (.slice (some ⟨b', 0 + 0 * te.sz, none⟩) (len + n) cap') w' ∧ len + n ≤ cap' ∧ cap' ≤ N' ∧ (∀ q, q < len → row' q = row q) ∧ (∀ q, q < n → row' (len + q) = row2 (base2 + q)) ∧
      ((x = .sl i b 0 0 len cap te.sz ∧ b' = b) ∨ b' = w.heap.size) ∧ MemRep F (putHp st.hp i (b', true, .arr 0 N' row' te.sz u' (0, 0))) w'.heap.size 0 w' := by
  have u1 := (htt _ _ ht).slice hd1
  have u2 := (htt _ _ ht').slice hd2
  obtain ⟨c2, hb2, hr2⟩ := hm.hp j b2 m2 _ hj
  have hA : AppArgs P w e te (den y) row2 base2 n := ⟨htt _ _ hte, hz, hby, b2, c2, cap2, t2, fz2, o2, N2, by rw [hy]; rfl, hb2, hr2, hn2⟩
  have hgrow : ∀ (row : Nat → List SV) (ad : Option Addr), den x = .slice ad len cap → (∀ j, j < len → (row (0 + j)).length = te.sz) →
      (Builtin.firstCells te.sz len (den x)).run P { w with drawn := w.drawn + 1 } = .ok (rowsOf row 0 len).toArray { w with drawn := w.drawn + 1 } → cap < len + n →
      ∃ w' b' cap' N' row' u', (Builtin.append_ #[t, t'] ty #[den x, den y]).run P w = .ok (.slice (some ⟨b', 0 + 0 * te.sz, none⟩) (len + n) cap') w' ∧ len + n ≤ cap' ∧ cap' ≤ N' ∧ (∀ q, q < len → row' q = row q) ∧ (∀ q, q < n → row' (len + q) = row2 (base2 + q)) ∧
      ((x = .sl i b 0 0 len cap te.sz ∧ b' = b) ∨ b' = w.heap.size) ∧ MemRep F (putHp st.hp i (b', true, .arr 0 N' row' te.sz u' (0, 0))) w'.heap.size 0 w' := by
    intro row ad hdx hrl hold hroom
    obtain ⟨newCap, h1, h2⟩ := run_append_grow (P := P) (w := w) (ty := ty) (row := row) u1 u2 hA hdx hold hroom hbig
    have hrep := grown_rep (row := row) (row2 := row2) (sz := te.sz) (len := len) (base2 := base2) (n := n) (cap := newCap) (z := te.zero.cells) hrl hA.len2 hz h1
    refine ⟨_, w.heap.size, newCap, newCap, appRow row row2 len base2 n (cellsV' te.zero.cells), e, by rw [Nat.zero_mul, Nat.zero_add]; exact h2, h1, Nat.le_refl _, fun q hq => by simp [appRow, hq], fun q hq => ?_, .inr rfl, hm.renew rfl ?_ ⟨_, ?_, hrep⟩⟩
    · unfold appRow
      rw [if_neg (by omega), if_pos (by omega)]
      congr 2; omega
    · have hk : Keeps F { w with drawn := w.drawn + 1 } := ⟨hm.kp.hB, hm.kp.os, hm.kp.tape, hm.kp.output, hm.kp.size, hm.kp.block⟩
      exact hk.alloc _
    · exact heap_alloc_new (w := { w with drawn := w.drawn + 1 })
  rcases hx with ⟨rfl, rfl, rfl, _⟩ | ⟨rfl, hi, hcap, hlen⟩
  · obtain ⟨w', b', cap', N', row', u', r⟩ := hgrow (fun _ => List.replicate te.sz (.v undef)) none rfl (fun j hj => by omega) (by simp [Builtin.firstCells, den, rowsOf]) (by omega)
    exact ⟨w', b', cap', N', row', u', r.1, r.2.1, r.2.2.1, fun q hq => by omega, r.2.2.2.2⟩
  · obtain ⟨c, hb, hr⟩ := hm.hp i b true _ hi
    by_cases hroom : len + n ≤ cap
    · have h1 := run_append_room (P := P) (w := w) (ty := ty) (row2 := row2) u1 u2 hA hb hr hcap hroom hna
      have hrep := hr.of_room (row2 := row2) (base2 := base2) (n := n) (len := len) (by omega) hA.len2
      have hlt : i < st.hp.length := (List.getElem?_eq_some_iff.1 hi).1
      refine ⟨_, b, cap, N, (fun q => if q < len then row q else if q < len + n then row2 (base2 + (q - len)) else row q), u, by rw [Nat.zero_mul, Nat.zero_add]; simpa [den] using h1, hroom, hcap, fun q hq => by simp [hq], fun q hq => ?_, .inl ⟨rfl, rfl⟩, ?_⟩
      · simp only
        rw [if_neg (by omega), if_pos (by omega)]
        congr 2; omega
      · have hs := hm.store hi (new := .arr 0 N (fun q => if q < len then row q else if q < len + n then row2 (base2 + (q - len)) else row q) te.sz u (0, 0)) (o := .cells (putAll c (len * te.sz) (rowsOf row2 base2 n)) u (0, 0)) ⟨_, putBlk_same (lt_of_heap hb), hrep⟩
        simp only [putHp, hlt, if_true]
        exact ⟨hs.hp, hs.mu, hs.nd, rfl, hs.kp⟩
    · refine hgrow row (some ⟨b, 0 + 0 * te.sz, none⟩) rfl (fun j hj => (hr.2 _ (by omega)).1) ?_ (by omega)
      simp only [den, Builtin.firstCells]
      exact run_loadRows (w := { w with drawn := w.drawn + 1 }) hb hr (by omega)

/-- An append in a list of operations. -/
theorem post_append {P : Program} {C : Cfg} (htt : TTok P C.tt) {Q : Exit → Act → World → Prop} {F : Fr} {st : St} {all : Array Oper} {o : Oper} {l : List Oper} {k : List W} {a : Act} {w : World} (hr : RepX F st a w) (hw : o.guard = none) {d : Nat} (hdst : o.dst = some d) (hdn : d < st.nt) (hks : st.ks.all (fun r => r.tj != d) = true)
    {x y : SV} {t t' : TypeId} (he : evApp st o.op = some (x, y, t, t')) {e e' : TypeId} {ti ti' te : TI} (ht : lookT C.tt t = some ti) (hd1 : ti.d = .slice e) (ht' : lookT C.tt t' = some ti') (hd2 : ti'.d = .slice e')
    (hte : lookT C.tt e = some te) (hz : te.zero.cells.size = te.sz) (hby : te.by_ ≠ 0) {j b2 o2 base2 n cap2 N2 : Nat} {m2 : Bool} {row2 : Nat → List SV} {t2 : TypeId} {fz2 : Nat × Nat} (hy : y = .sl j b2 o2 base2 n cap2 te.sz) (hj : st.hp[j]? = some (b2, m2, .arr o2 N2 row2 te.sz t2 fz2)) (hn2 : base2 + n ≤ N2)
    {i b len cap N : Nat} {row : Nat → List SV} {u : TypeId} (hx : (x = .v (.slice none 0 0) ∧ len = 0 ∧ cap = 0 ∧ i = st.hp.length) ∨ (x = .sl i b 0 0 len cap te.sz ∧ st.hp[i]? = some (b, true, .arr 0 N row te.sz u (0, 0)) ∧ cap ≤ N ∧ len ≤ cap))
    (hpos : 0 < n) (hbig : (2 * (len + n) + 192) * te.by_ ≤ 281474976710656) (hna : ∀ j, j < n → ∀ x ∈ row2 (base2 + j), NotAgg (den x))
    (hk : ∀ a' w' b' cap' N' row' u', len + n ≤ cap' → cap' ≤ N' → (∀ q, q < len → row' q = row q) → (∀ q, q < n → row' (len + q) = row2 (base2 + q)) → ((x = .sl i b 0 0 len cap te.sz ∧ b' = b) ∨ b' = w.heap.size) →
      RepX F { st with env := (d, 0, .sl i b' 0 0 (len + n) cap' te.sz) :: st.env, hp := putHp st.hp i (b', true, .arr 0 N' row' te.sz u' (0, 0)) } a' w' → post P Q (.ops all l :: k) .normal a' w') :
    post P Q (.ops all (o :: l) :: k) .normal a w := by
  obtain ⟨w', b', cap', N', row', u', h1, h2, h3, h4, h5, h6, h7⟩ := append_mem htt (ty := o.type) hr.mem ht hd1 ht' hd2 hte hz hby hy hj hn2 hx hpos hbig hna
  show wpList P all (post P Q k) (o :: l) a w
  unfold wpList
  rw [if_pos (wanted_none hw)]
  refine .inl ?_
  have he0 : EnvRep st a := hr.env.same rfl rfl rfl rfl
  have e1 := evApp_sound (P := P) he0 he w
  rw [h1] at e1
  simp only [Oper.wp, e1, Result.andThen_ok, Oper.upon]
  refine hk _ w' b' cap' N' row' u' h2 h3 h4 h5 h6 ?_
  have hp0 : putS { st with s := w'.heap.size, k := 0 } (some d) 0 (.sl i b' 0 0 (len + n) cap' te.sz) = some { st with s := w'.heap.size, k := 0, env := (d, 0, .sl i b' 0 0 (len + n) cap' te.sz) :: st.env } := by
    simp only [putS, hdn, hks, decide_true, Bool.and_self, if_true]
  have hput := putS_sound (he0.same (st' := { st with s := w'.heap.size, k := 0 }) rfl rfl rfl rfl) (Nat.zero_le _) hp0
  simp only [cnd, if_true, den] at hput
  rw [hdst]
  exact Rep.of_mem (hput.same rfl rfl rfl rfl) h7

end Go.SX
