/-
  Part 8: stores; the worklist of a function's code; the condition that a walk of it asks, and that it is enough. Holds for every program.
-/
import Derived.Test.YtnmjdelnllchdaaSx7
namespace Go.SX
set_option linter.unusedVariables false
set_option linter.unusedSimpArgs false
set_option linter.unusedSectionVars false
open Go

/-! ### Stores -/
theorem Keeps.putBlk {F : Fr} {w : World} (h : Keeps F w) {b : Nat} (o : Obj) (hb : F.B ≤ b ∨ b ∈ F.M) : Keeps F (putBlk w b o) :=
  ⟨h.hB, h.os, h.tape, h.output, by rw [putBlk_size]; exact h.size, fun k hk hm => by
    have hne : b ≠ k := by
      rintro rfl
      rcases hb with hb | hb
      · omega
      · exact hm hb
    rw [putBlk_ne hne]; exact h.block k hk hm⟩

theorem get_set {α : Type} {l : List α} {i j : Nat} {x y : α} (h : (l.set i x)[j]? = some y) : (i = j ∧ y = x ∧ i < l.length) ∨ (i ≠ j ∧ l[j]? = some y) := by
  by_cases hij : i = j
  · subst hij
    rw [List.getElem?_set_self'] at h
    cases hl : l[i]? with
    | none => rw [hl] at h; cases h
    | some z => rw [hl] at h; cases h; exact .inl ⟨rfl, rfl, (List.getElem?_eq_some_iff.1 hl).1⟩
  · rw [List.getElem?_set_ne hij] at h
    exact .inr ⟨hij, h⟩

theorem MemRep.store {F : Fr} {H : Hp} {s k : Nat} {w : World} (h : MemRep F H s k w) {i b : Nat} {old new : SO} {o : Obj} (hi : H[i]? = some (b, true, old)) (hnew : new.rep (putBlk w b o) b) :
    MemRep F (H.set i (b, true, new)) s k (putBlk w b o) where
  hp := fun j c m t hj => by
    rcases get_set hj with ⟨_, h1, _⟩ | ⟨hne, h1⟩
    · cases h1; exact hnew
    · have hbc : b ≠ c := fun e => hne (h.nd i j _ _ hi h1 e)
      exact SO.rep_same (h.hp j c m t h1) (putBlk_ne hbc)
  mu := fun j c t hj => by
    rcases get_set hj with ⟨_, h1, _⟩ | ⟨hne, h1⟩
    · cases h1; exact h.mu i b old hi
    · exact h.mu j c t h1
  nd := fun j j' x y hj hj' hxy => by
    rcases get_set hj with ⟨e1, h1, _⟩ | ⟨n1, h1⟩ <;> rcases get_set hj' with ⟨e2, h2, _⟩ | ⟨n2, h2⟩
    · omega
    · subst h1; exact absurd (h.nd i j' _ _ hi h2 hxy) n2
    · subst h2; exact absurd (h.nd i j _ _ hi h1 hxy.symm) n1
    · exact h.nd j j' x y h1 h2 hxy
  sz := by rw [putBlk_size]; exact h.sz
  kp := h.kp.putBlk o (h.mu i b old hi)

def setRow (row : Nat → List SV) (idx : Nat) (r : List SV) : Nat → List SV := fun j => if j = idx then r else row j

/-- A store: what it asks, and the blocks behind it. -/
def evStore (tt : List (Nat × TI)) (st : St) (c : Nat) : Op → Option (List Prop × Hp)
  | .store t x y => match opd st c x, opd st c y, lookT tt t with
    | some p, some z, some ti => match p with
      | .ptr i b o => match st.hp[i]? with
        | some (b', true, .cells l u) =>
          if z.cells.length = ti.sz ∧ o + ti.sz ≤ l.length then some ((b = b') :: z.cells.map (fun y => NotAgg (den y)), st.hp.set i (b', true, .cells (spliceL l o z.cells) u)) else none
        | _ => none
      | .el i b o0 idx sz sub => match st.hp[i]? with
        | some (b', true, .arr o0' n row sz' u fz) =>
          if sz = sz' ∧ z.cells.length = ti.sz ∧ sub + ti.sz ≤ sz then
            some ((b = b') :: (o0 = o0') :: (idx < n) :: (fz = (0, 0)) :: z.cells.map (fun y => NotAgg (den y)), st.hp.set i (b', true, .arr o0' n (setRow row idx (spliceL (row idx) sub z.cells)) sz' u fz)) else none
        | _ => none
      | _ => none
    | _, _, _ => none
  | .mapUpdate t m k x => match opd st c m, opd st c k, opd st c x, lookT tt t with
    | some (.mp i b), some (.v (.int .i64 n)), some y, some { d := .map kt _, .. } => match lookT tt kt with
      | some { d := .int .i64, .. } => match st.hp[i]? with
        | some (b', true, .imap f) => some ([b = b'], st.hp.set i (b', true, .imap (updFn f n y)))
        | some (b', true, .iset p) => match y with
          | .v (.bool true) => some ([b = b'], st.hp.set i (b', true, .iset (addFn p n)))
          | _ => none
        | _ => none
      | _ => none
    | _, _, _, _ => none
  | _ => none

theorem idx_bound {idx n sz : Nat} (h : idx < n) : idx * sz + sz ≤ n * sz := by
  have h1 : (idx + 1) * sz ≤ n * sz := Nat.mul_le_mul_right sz h
  rw [Nat.add_mul, Nat.one_mul] at h1
  exact h1

theorem cell_split {j s idx o sz : Nat} (hs : s < sz) (ho : o < sz) (h : j * sz + s = idx * sz + o) : j = idx ∧ s = o := by
  have hz : 0 < sz := by omega
  have h1 : (j * sz + s) / sz = j := by rw [Nat.mul_comm, Nat.mul_add_div hz, Nat.div_eq_of_lt hs]; rfl
  have h2 : (idx * sz + o) / sz = idx := by rw [Nat.mul_comm, Nat.mul_add_div hz, Nat.div_eq_of_lt ho]; rfl
  have h3 : j = idx := by rw [← h1, ← h2, h]
  subst h3
  exact ⟨rfl, by omega⟩

theorem ArrRep.store {c : Array Value} {o0 n : Nat} {row : Nat → List SV} {sz idx sub : Nat} {vs : List SV} (h : ArrRep c o0 n row sz) (hi : idx < n) (hs : sub + vs.length ≤ sz) :
    ArrRep (putAll c (o0 + (idx * sz + sub)) (denL vs)) o0 n (setRow row idx (spliceL (row idx) sub vs)) sz := by
  obtain ⟨h1, h2⟩ := h
  have hb := idx_bound (sz := sz) hi
  have hfit : o0 + (idx * sz + sub) + (denL vs).length ≤ c.size := by rw [denL_length]; omega
  refine ⟨by rw [putAll_size]; exact h1, fun j hj => ?_⟩
  obtain ⟨h3, h4⟩ := h2 j hj
  obtain ⟨h5, h6⟩ := h2 idx hi
  refine ⟨?_, fun s hss => ?_⟩
  · unfold setRow
    split
    · rw [spliceL_length (by rw [h5]; exact hs), h5]
    · exact h3
  · rw [putAll_get _ _ _ _ hfit, denL_length]
    by_cases hji : j = idx
    · subst hji
      simp only [setRow, if_true, denL_get?]
      rw [splice_get (by rw [h5]; exact hs)]
      by_cases hin : sub ≤ s ∧ s < sub + vs.length
      · rw [if_pos (by omega), if_pos hin]
        congr 2; omega
      · rw [if_neg (by omega), if_neg hin, h4 s hss, denL_get?]
    · have hni : ¬ (o0 + (idx * sz + sub) ≤ o0 + (j * sz + s) ∧ o0 + (j * sz + s) < o0 + (idx * sz + sub) + vs.length) := by
        rintro ⟨g1, g2⟩
        obtain ⟨e, _⟩ := cell_split (j := j) (s := s) (idx := idx) (o := j * sz + s - idx * sz) hss (by omega) (by omega)
        exact hji e
      rw [if_neg hni]
      simp only [setRow, if_neg hji]
      exact h4 s hss

theorem evStore_sound {P : Program} {tt : List (Nat × TI)} (htt : TTok P tt) {F : Fr} {st : St} {c : Nat} {o : Oper} {obs : List Prop} {H : Hp} {a : Act} {w : World}
    (he : EnvRep st a) (hm : MemRep F st.hp st.s st.k w) (hc : cnd st.cs c = true) (h : evStore tt st c o.op = some (obs, H)) (ho : ∀ p ∈ obs, p) :
    ∃ w', (execOp a.eval o).run P w = .ok .skip w' ∧ MemRep F H st.s st.k w' := by
  unfold evStore at h
  split at h
  · rename_i t x y hop
    split at h
    · rename_i p z ti hp hz hti
      have hok := htt _ _ hti
      split at h
      · rename_i i b off
        split at h
        · rename_i b' l u hi
          split at h
          · rename_i hcond
            cases h
            have e : b = b' := ho _ (by simp)
            subst e
            have hr : w.heap[b]? = some (.cells (denL l).toArray u (0, 0)) := hm.hp i b true _ hi
            have hsv := run_storeVar (P := P) (x := z) (o := off) hok hr hcond.1 (by simp [denL_length]; exact hcond.2) (fun y hy => ho _ (List.mem_cons_of_mem _ (List.mem_map.2 ⟨y, hy, rfl⟩)))
            rw [putAll_splice (by omega)] at hsv
            refine ⟨_, ?_, hm.store hi (new := .cells (spliceL l off z.cells) u) (o := .cells (denL (spliceL l off z.cells)).toArray u (0, 0)) (putBlk_same (lt_of_heap hr))⟩
            simp only [execOp, hop, Instr.storeAt, opd_sound he hc hp, opd_sound he hc hz, Sem.run_bind]
            simp only [den, Instr.sureAddr, Sem.run_pure, Result.andThen_ok, hsv]
          · cases h
        · cases h
      · rename_i i b o0 idx sz sub
        split at h
        · rename_i b' o0' n row sz' u fz hi
          split at h
          · rename_i hcond
            cases h
            have e : b = b' := ho _ (by simp)
            have e0 : o0 = o0' := ho _ (by simp)
            have hlt : idx < n := ho _ (by simp)
            have hfz : fz = (0, 0) := ho _ (by simp)
            subst e
            subst e0
            subst hfz
            obtain ⟨c1, c2, c3⟩ := hcond
            subst c1
            obtain ⟨cc, hr, hrep⟩ := hm.hp i b true _ hi
            have hb := idx_bound (sz := sz) hlt
            have hsv := run_storeVar (P := P) (x := z) (o := o0 + (idx * sz + sub)) hok hr c2 (by have := hrep.1; omega) (fun y hy => ho _ (List.mem_cons_of_mem _ (List.mem_cons_of_mem _ (List.mem_cons_of_mem _ (List.mem_cons_of_mem _ (List.mem_map.2 ⟨y, hy, rfl⟩))))))
            refine ⟨_, ?_, hm.store hi (new := .arr o0 n (setRow row idx (spliceL (row idx) sub z.cells)) sz u (0, 0)) (o := .cells (putAll cc (o0 + (idx * sz + sub)) (denL z.cells)) u (0, 0)) ⟨_, putBlk_same (lt_of_heap hr), hrep.store hlt (by omega)⟩⟩
            simp only [execOp, hop, Instr.storeAt, opd_sound he hc hp, opd_sound he hc hz, Sem.run_bind]
            simp only [den, Instr.sureAddr, Sem.run_pure, Result.andThen_ok, hsv]
          · cases h
        · cases h
      · cases h
    · cases h
  · rename_i t m k x hop
    split at h
    · rename_i i b n y kt _ _ _ _ hm1 hk1 hx1 hti
      have hu := (htt _ _ hti).map rfl
      split at h
      · rename_i hkt
        have hkk := (htt _ _ hkt).int rfl
        split at h
        · rename_i b' f hi
          cases h
          have e : b = b' := ho _ (by simp)
          subst e
          obtain ⟨es, clk, hb, hmp⟩ := hm.hp i b true _ hi
          obtain ⟨es', clk', h1, h2⟩ := run_mapUpdate (w := w) hu hkk hb hmp n y
          refine ⟨_, ?_, hm.store hi (new := .imap (updFn f n y)) ⟨es', clk', putBlk_same (lt_of_heap hb), h2⟩⟩
          simp only [execOp, hop, opd_sound he hc hm1, opd_sound he hc hk1, opd_sound he hc hx1, Sem.run_bind]
          simp only [den, h1, Result.andThen_ok, Sem.run_pure]
        · rename_i b' p hi
          split at h
          · cases h
            have e : b = b' := ho _ (by simp)
            subst e
            obtain ⟨es, clk, hb, hmp⟩ := hm.hp i b true _ hi
            obtain ⟨es', clk', h1, h2⟩ := run_mapUpdate (w := w) hu hkk hb hmp n (.v (.bool true))
            rw [← setFn_add] at h2
            refine ⟨_, ?_, hm.store hi (new := .iset (addFn p n)) ⟨es', clk', putBlk_same (lt_of_heap hb), h2⟩⟩
            simp only [execOp, hop, opd_sound he hc hm1, opd_sound he hc hk1, opd_sound he hc hx1, Sem.run_bind]
            simp only [den] at h1 ⊢
            simp only [h1, Result.andThen_ok, Sem.run_pure]
          · cases h
        · cases h
      · cases h
    · cases h
  · cases h

/-! ### One step of a list of operations -/
def stepNew (C : Cfg) (st : St) (all : Array Oper) (o : Oper) : Option (List Prop × St) :=
  match guardIx st all o.guard with
  | some (.go _ _ 0 obs) => match evNew C.tt st 0 o.op with
    | some (x, so) => (putS { st with hp := st.hp ++ [(st.s + st.k, true, so)], k := st.k + 1 } o.dst 0 x).map fun s => (obs, s)
    | none => none
  | _ => none

def stepStore (C : Cfg) (st : St) (all : Array Oper) (o : Oper) : Option (List Prop × St) :=
  match guardIx st all o.guard with
  | some (.go _ _ 0 obs) => match evStore C.tt st 0 o.op with
    | some (obs', H) => (putS { st with hp := H } o.dst 0 (.v undef)).map fun s => (obs ++ obs', s)
    | none => none
  | _ => none

theorem EnvRep.same {st st' : St} {a : Act} (h : EnvRep st a) (h1 : st'.env = st.env) (h2 : st'.cs = st.cs) (h3 : st'.ks = st.ks) (h4 : st'.nt = st.nt) : EnvRep st' a := by
  obtain ⟨e1, e2, e3, e4⟩ := h
  exact ⟨by rw [h4]; exact e1, e2, fun t c x hx => by rw [h1] at hx; rw [h2]; exact e3 t c x hx, fun r hr => by rw [h3] at hr; rw [h2]; exact e4 r hr⟩

theorem wanted_zero {st : St} {all : Array Oper} {o : Oper} {cs : List Bool} {ks : List Ks} {obs : List Prop} {a : Act} (hr : EnvRep st a) (h : guardIx st all o.guard = some (.go cs ks 0 obs)) (ho : ∀ p ∈ obs, p) :
    Region.wanted o (yielded all a.tmps) = true := (guardIx_go hr h ho).2.1

theorem stepNew_sound {P : Program} {C : Cfg} (htt : TTok P C.tt) {F : Fr} {st st' : St} {all : Array Oper} {o : Oper} {obs : List Prop} {a : Act} {w : World} (hr : Rep F st a w)
    (h : stepNew C st all o = some (obs, st')) (ho : ∀ p ∈ obs, p) :
    Region.wanted o (yielded all a.tmps) = true ∧ ∃ v ob, (execOp a.eval o).run P w = .ok (.value v) (w.alloc ob) ∧ Rep F st' (a.put o.dst v) (w.alloc ob) := by
  unfold stepNew at h
  split at h
  · rename_i cs ks obs' hg
    split at h
    · rename_i x so he
      simp only [Option.map_eq_some_iff, Prod.mk.injEq] at h
      obtain ⟨s, hs, h1, h2⟩ := h
      subst h1; subst h2
      obtain ⟨ob, e1, e2⟩ := evNew_sound htt hr.env hr.mem rfl he
      refine ⟨wanted_zero hr.env hg ho, den x, ob, e1, ?_⟩
      have hput := putS_sound (hr.env.same (st' := { st with hp := st.hp ++ [(st.s + st.k, true, so)], k := st.k + 1 }) rfl rfl rfl rfl) (Nat.zero_le _) hs
      simp only [cnd, if_true] at hput
      obtain ⟨f1, f2, f3, f4, f5⟩ := putS_fields hs
      refine Rep.of_mem hput ?_
      rw [f1, f2, f3]
      exact hr.mem.alloc e2
    · cases h
  · cases h

theorem stepStore_sound {P : Program} {C : Cfg} (htt : TTok P C.tt) {F : Fr} {st st' : St} {all : Array Oper} {o : Oper} {obs : List Prop} {a : Act} {w : World} (hr : Rep F st a w)
    (h : stepStore C st all o = some (obs, st')) (ho : ∀ p ∈ obs, p) :
    Region.wanted o (yielded all a.tmps) = true ∧ ∃ w', (execOp a.eval o).run P w = .ok .skip w' ∧ Rep F st' (a.put o.dst undef) w' := by
  unfold stepStore at h
  split at h
  · rename_i cs ks obs' hg
    split at h
    · rename_i obs2 H he
      simp only [Option.map_eq_some_iff, Prod.mk.injEq] at h
      obtain ⟨s, hs, h1, h2⟩ := h
      subst h1; subst h2
      obtain ⟨w', e1, e2⟩ := evStore_sound htt hr.env hr.mem rfl he (fun p hp => ho p (by simp [hp]))
      refine ⟨wanted_zero hr.env hg (fun p hp => ho p (by simp [hp])), w', e1, ?_⟩
      have hput := putS_sound (hr.env.same (st' := { st with hp := H }) rfl rfl rfl rfl) (Nat.zero_le _) hs
      simp only [cnd, if_true, den] at hput
      obtain ⟨f1, f2, f3, f4, f5⟩ := putS_fields hs
      refine Rep.of_mem hput ?_
      rw [f1, f2, f3]
      exact e2
    · cases h
  · cases h

end Go.SX
