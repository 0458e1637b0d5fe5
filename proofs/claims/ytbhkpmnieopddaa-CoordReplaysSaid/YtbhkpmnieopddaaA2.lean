/- A2: texts of this proof, joined. -/
import Derived.Test.YtbhkpmnieopddaaA1
import Derived.Deep.LoopGhost
import Derived.Deep.Slices
import Derived.Deep.Fields
import Derived.ChangeSame
import Derived.RowKit
import Derived.OpenShut
import Derived.HandedShaped
import Derived.WalkKit
import Derived.ProofKit
import Derived.ChangeOld
import Derived.Laws.LoneSync
set_option linter.unusedVariables false
set_option linter.unusedSimpArgs false
set_option linter.unusedSectionVars false
namespace Go.SX
open Go
theorem Keeps.putBlk {F : Fr} {w : World} (h : Keeps F w) {b : Nat} (o : Obj) (hb : F.B ≤ b ∨ b ∈ F.M) : Keeps F (putBlk w b o) :=
  ⟨h.hB, h.os, h.tape, h.output, by rw [putBlk_size]; exact h.size, fun k hk hm => by
    have hne : b ≠ k := by
      rintro rfl
      rcases hb with hb | hb
      · omega
      · exact hm hb
    rw [putBlk_ne hne]; exact h.block k hk hm⟩
theorem get_set {α : Type} {l : List α} {i j : Nat} {x y : α} (h : (l.set i x)[j]? = some y) : (i = j ∧ y = x ∧ i < l.length) ∨ (i ≠ j ∧ l[j]? = some y) := by
  by_cases hij : i = j
  · subst hij
    rw [List.getElem?_set_self'] at h
    cases hl : l[i]? with
    | none => rw [hl] at h; cases h
    | some z => rw [hl] at h; cases h; exact .inl ⟨rfl, rfl, (List.getElem?_eq_some_iff.1 hl).1⟩
  · rw [List.getElem?_set_ne hij] at h
    exact .inr ⟨hij, h⟩
theorem MemRep.store {F : Fr} {H : Hp} {s k : Nat} {w : World} (h : MemRep F H s k w) {i b : Nat} {old new : SO} {o : Obj} (hi : H[i]? = some (b, true, old)) (hnew : new.rep (putBlk w b o) b) :
    MemRep F (H.set i (b, true, new)) s k (putBlk w b o) where
  hp := fun j c m t hj => by
    rcases get_set hj with ⟨_, h1, _⟩ | ⟨hne, h1⟩
    · cases h1; exact hnew
    · have hbc : b ≠ c := fun e => hne (h.nd i j _ _ hi h1 e)
      exact SO.rep_same (h.hp j c m t h1) (putBlk_ne hbc)
  mu := fun j c t hj => by
    rcases get_set hj with ⟨_, h1, _⟩ | ⟨hne, h1⟩
    · cases h1; exact h.mu i b old hi
    · exact h.mu j c t h1
  nd := fun j j' x y hj hj' hxy => by
    rcases get_set hj with ⟨e1, h1, _⟩ | ⟨n1, h1⟩ <;> rcases get_set hj' with ⟨e2, h2, _⟩ | ⟨n2, h2⟩
    · omega
    · subst h1; exact absurd (h.nd i j' _ _ hi h2 hxy) n2
    · subst h2; exact absurd (h.nd i j _ _ hi h1 hxy.symm) n1
    · exact h.nd j j' x y h1 h2 hxy
  sz := by rw [putBlk_size]; exact h.sz
  kp := h.kp.putBlk o (h.mu i b old hi)
def setRow (row : Nat → List SV) (idx : Nat) (r : List SV) : Nat → List SV := fun j => if j = idx then r else row j
def evStore (tt : List (Nat × TI)) (st : St) (c : Nat) : Op → Option (List Prop × Hp)
  | .store t x y => match opd st c x, opd st c y, lookT tt t with
    | some p, some z, some ti => match p with
      | .ptr i b o => match st.hp[i]? with
        | some (b', true, .cells l u) =>
          if z.cells.length = ti.sz ∧ o + ti.sz ≤ l.length then some ((b = b') :: z.cells.map (fun y => NotAgg (den y)), st.hp.set i (b', true, .cells (spliceL l o z.cells) u)) else none
        | _ => none
      | .el i b o0 idx sz sub => match st.hp[i]? with
        | some (b', true, .arr o0' n row sz' u fz) =>
          if sz = sz' ∧ z.cells.length = ti.sz ∧ sub + ti.sz ≤ sz then
            some ((b = b') :: (o0 = o0') :: (idx < n) :: (fz = (0, 0)) :: z.cells.map (fun y => NotAgg (den y)), st.hp.set i (b', true, .arr o0' n (setRow row idx (spliceL (row idx) sub z.cells)) sz' u fz)) else none
        | _ => none
      | _ => none
    | _, _, _ => none
  | .mapUpdate t m k x => match opd st c m, opd st c k, opd st c x, lookT tt t with
    | some (.mp i b), some (.v (.int .i64 n)), some y, some { d := .map kt _, .. } => match lookT tt kt with
      | some { d := .int .i64, .. } => match st.hp[i]? with
        | some (b', true, .imap f) => some ([b = b'], st.hp.set i (b', true, .imap (updFn f n y)))
        | some (b', true, .iset p) => match y with
          | .v (.bool true) => some ([b = b'], st.hp.set i (b', true, .iset (addFn p n)))
          | _ => none
        | _ => none
      | _ => none
    | _, _, _, _ => none
  | _ => none
theorem idx_bound {idx n sz : Nat} (h : idx < n) : idx * sz + sz ≤ n * sz := by
  have h1 : (idx + 1) * sz ≤ n * sz := Nat.mul_le_mul_right sz h
  rw [Nat.add_mul, Nat.one_mul] at h1
  exact h1
theorem cell_split {j s idx o sz : Nat} (hs : s < sz) (ho : o < sz) (h : j * sz + s = idx * sz + o) : j = idx ∧ s = o := by
  have hz : 0 < sz := by omega
  have h1 : (j * sz + s) / sz = j := by rw [Nat.mul_comm, Nat.mul_add_div hz, Nat.div_eq_of_lt hs]; rfl
  have h2 : (idx * sz + o) / sz = idx := by rw [Nat.mul_comm, Nat.mul_add_div hz, Nat.div_eq_of_lt ho]; rfl
  have h3 : j = idx := by rw [← h1, ← h2, h]
  subst h3
  exact ⟨rfl, by omega⟩
theorem ArrRep.store {c : Array Value} {o0 n : Nat} {row : Nat → List SV} {sz idx sub : Nat} {vs : List SV} (h : ArrRep c o0 n row sz) (hi : idx < n) (hs : sub + vs.length ≤ sz) :
    ArrRep (putAll c (o0 + (idx * sz + sub)) (denL vs)) o0 n (setRow row idx (spliceL (row idx) sub vs)) sz := by
  obtain ⟨h1, h2⟩ := h
  have hb := idx_bound (sz := sz) hi
  have hfit : o0 + (idx * sz + sub) + (denL vs).length ≤ c.size := by rw [denL_length]; omega
  refine ⟨by rw [putAll_size]; exact h1, fun j hj => ?_⟩
  obtain ⟨h3, h4⟩ := h2 j hj
  obtain ⟨h5, h6⟩ := h2 idx hi
  refine ⟨?_, fun s hss => ?_⟩
  · unfold setRow
    split
    · rw [spliceL_length (by rw [h5]; exact hs), h5]
    · exact h3
  · rw [putAll_get _ _ _ _ hfit, denL_length]
    by_cases hji : j = idx
    · subst hji
      simp only [setRow, if_true, denL_get?]
      rw [splice_get (by rw [h5]; exact hs)]
      by_cases hin : sub ≤ s ∧ s < sub + vs.length
      · rw [if_pos (by omega), if_pos hin]
        congr 2; omega
      · rw [if_neg (by omega), if_neg hin, h4 s hss, denL_get?]
    · have hni : ¬ (o0 + (idx * sz + sub) ≤ o0 + (j * sz + s) ∧ o0 + (j * sz + s) < o0 + (idx * sz + sub) + vs.length) := by
        rintro ⟨g1, g2⟩
        obtain ⟨e, _⟩ := cell_split (j := j) (s := s) (idx := idx) (o := j * sz + s - idx * sz) hss (by omega) (by omega)
        exact hji e
      rw [if_neg hni]
      simp only [setRow, if_neg hji]
      exact h4 s hss
theorem evStore_sound {P : Program} {tt : List (Nat × TI)} (htt : TTok P tt) {F : Fr} {st : St} {c : Nat} {o : Oper} {obs : List Prop} {H : Hp} {a : Act} {w : World}
    (he : EnvRep st a) (hm : MemRep F st.hp st.s st.k w) (hc : cnd st.cs c = true) (h : evStore tt st c o.op = some (obs, H)) (ho : ∀ p ∈ obs, p) :
    ∃ w', (execOp a.eval o).run P w = .ok .skip w' ∧ MemRep F H st.s st.k w' := by
  unfold evStore at h
  split at h
  · rename_i t x y hop
    split at h
    · rename_i p z ti hp hz hti
      have hok := htt _ _ hti
      split at h
      · rename_i i b off
        split at h
        · rename_i b' l u hi
          split at h
          · rename_i hcond
            cases h
            have e : b = b' := ho _ (by simp)
            subst e
            have hr : w.heap[b]? = some (.cells (denL l).toArray u (0, 0)) := hm.hp i b true _ hi
            have hsv := run_storeVar (P := P) (x := z) (o := off) hok hr hcond.1 (by simp [denL_length]; exact hcond.2) (fun y hy => ho _ (List.mem_cons_of_mem _ (List.mem_map.2 ⟨y, hy, rfl⟩)))
            rw [putAll_splice (by omega)] at hsv
            refine ⟨_, ?_, hm.store hi (new := .cells (spliceL l off z.cells) u) (o := .cells (denL (spliceL l off z.cells)).toArray u (0, 0)) (putBlk_same (lt_of_heap hr))⟩
            simp only [execOp, hop, Instr.storeAt, opd_sound he hc hp, opd_sound he hc hz, Sem.run_bind]
            simp only [den, Instr.sureAddr, Sem.run_pure, Result.andThen_ok, hsv]
          · cases h
        · cases h
      · rename_i i b o0 idx sz sub
        split at h
        · rename_i b' o0' n row sz' u fz hi
          split at h
          · rename_i hcond
            cases h
            have e : b = b' := ho _ (by simp)
            have e0 : o0 = o0' := ho _ (by simp)
            have hlt : idx < n := ho _ (by simp)
            have hfz : fz = (0, 0) := ho _ (by simp)
            subst e
            subst e0
            subst hfz
            obtain ⟨c1, c2, c3⟩ := hcond
            subst c1
            obtain ⟨cc, hr, hrep⟩ := hm.hp i b true _ hi
            have hb := idx_bound (sz := sz) hlt
            have hsv := run_storeVar (P := P) (x := z) (o := o0 + (idx * sz + sub)) hok hr c2 (by have := hrep.1; omega) (fun y hy => ho _ (List.mem_cons_of_mem _ (List.mem_cons_of_mem _ (List.mem_cons_of_mem _ (List.mem_cons_of_mem _ (List.mem_map.2 ⟨y, hy, rfl⟩))))))
            refine ⟨_, ?_, hm.store hi (new := .arr o0 n (setRow row idx (spliceL (row idx) sub z.cells)) sz u (0, 0)) (o := .cells (putAll cc (o0 + (idx * sz + sub)) (denL z.cells)) u (0, 0)) ⟨_, putBlk_same (lt_of_heap hr), hrep.store hlt (by omega)⟩⟩
            simp only [execOp, hop, Instr.storeAt, opd_sound he hc hp, opd_sound he hc hz, Sem.run_bind]
            simp only [den, Instr.sureAddr, Sem.run_pure, Result.andThen_ok, hsv]
          · cases h
        · cases h
      · cases h
    · cases h
  · rename_i t m k x hop
    split at h
    · rename_i i b n y kt _ _ _ _ hm1 hk1 hx1 hti
      have hu := (htt _ _ hti).map rfl
      split at h
      · rename_i hkt
        have hkk := (htt _ _ hkt).int rfl
        split at h
        · rename_i b' f hi
          cases h
          have e : b = b' := ho _ (by simp)
          subst e
          obtain ⟨es, clk, hb, hmp⟩ := hm.hp i b true _ hi
          obtain ⟨es', clk', h1, h2⟩ := run_mapUpdate (w := w) hu hkk hb hmp n y
          refine ⟨_, ?_, hm.store hi (new := .imap (updFn f n y)) ⟨es', clk', putBlk_same (lt_of_heap hb), h2⟩⟩
          simp only [execOp, hop, opd_sound he hc hm1, opd_sound he hc hk1, opd_sound he hc hx1, Sem.run_bind]
          simp only [den, h1, Result.andThen_ok, Sem.run_pure]
        · rename_i b' p hi
          split at h
          · cases h
            have e : b = b' := ho _ (by simp)
            subst e
            obtain ⟨es, clk, hb, hmp⟩ := hm.hp i b true _ hi
            obtain ⟨es', clk', h1, h2⟩ := run_mapUpdate (w := w) hu hkk hb hmp n (.v (.bool true))
            rw [← setFn_add] at h2
            refine ⟨_, ?_, hm.store hi (new := .iset (addFn p n)) ⟨es', clk', putBlk_same (lt_of_heap hb), h2⟩⟩
            simp only [execOp, hop, opd_sound he hc hm1, opd_sound he hc hk1, opd_sound he hc hx1, Sem.run_bind]
            simp only [den] at h1 ⊢
            simp only [h1, Result.andThen_ok, Sem.run_pure]
          · cases h
        · cases h
      · cases h
    · cases h
  · cases h
def stepNew (C : Cfg) (st : St) (all : Array Oper) (o : Oper) : Option (List Prop × St) :=
  match guardIx st all o.guard with
  | some (.go _ _ 0 obs) => match evNew C.tt st 0 o.op with
    | some (x, so) => (putS { st with hp := st.hp ++ [(st.s + st.k, true, so)], k := st.k + 1 } o.dst 0 x).map fun s => (obs, s)
    | none => none
  | _ => none
def stepStore (C : Cfg) (st : St) (all : Array Oper) (o : Oper) : Option (List Prop × St) :=
  match guardIx st all o.guard with
  | some (.go _ _ 0 obs) => match evStore C.tt st 0 o.op with
    | some (obs', H) => (putS { st with hp := H } o.dst 0 (.v undef)).map fun s => (obs ++ obs', s)
    | none => none
  | _ => none
theorem EnvRep.same {st st' : St} {a : Act} (h : EnvRep st a) (h1 : st'.env = st.env) (h2 : st'.cs = st.cs) (h3 : st'.ks = st.ks) (h4 : st'.nt = st.nt) : EnvRep st' a := by
  obtain ⟨e1, e2, e3, e4⟩ := h
  exact ⟨by rw [h4]; exact e1, e2, fun t c x hx => by rw [h1] at hx; rw [h2]; exact e3 t c x hx, fun r hr => by rw [h3] at hr; rw [h2]; exact e4 r hr⟩
theorem wanted_zero {st : St} {all : Array Oper} {o : Oper} {cs : List Bool} {ks : List Ks} {obs : List Prop} {a : Act} (hr : EnvRep st a) (h : guardIx st all o.guard = some (.go cs ks 0 obs)) (ho : ∀ p ∈ obs, p) :
    Region.wanted o (yielded all a.tmps) = true := (guardIx_go hr h ho).2.1
theorem stepNew_sound {P : Program} {C : Cfg} (htt : TTok P C.tt) {F : Fr} {st st' : St} {all : Array Oper} {o : Oper} {obs : List Prop} {a : Act} {w : World} (hr : Rep F st a w)
    (h : stepNew C st all o = some (obs, st')) (ho : ∀ p ∈ obs, p) :
    Region.wanted o (yielded all a.tmps) = true ∧ ∃ v ob, (execOp a.eval o).run P w = .ok (.value v) (w.alloc ob) ∧ Rep F st' (a.put o.dst v) (w.alloc ob) := by
  unfold stepNew at h
  split at h
  · rename_i cs ks obs' hg
    split at h
    · rename_i x so he
      simp only [Option.map_eq_some_iff, Prod.mk.injEq] at h
      obtain ⟨s, hs, h1, h2⟩ := h
      subst h1; subst h2
      obtain ⟨ob, e1, e2⟩ := evNew_sound htt hr.env hr.mem rfl he
      refine ⟨wanted_zero hr.env hg ho, den x, ob, e1, ?_⟩
      have hput := putS_sound (hr.env.same (st' := { st with hp := st.hp ++ [(st.s + st.k, true, so)], k := st.k + 1 }) rfl rfl rfl rfl) (Nat.zero_le _) hs
      simp only [cnd, if_true] at hput
      obtain ⟨f1, f2, f3, f4, f5⟩ := putS_fields hs
      refine Rep.of_mem hput ?_
      rw [f1, f2, f3]
      exact hr.mem.alloc e2
    · cases h
  · cases h
theorem stepStore_sound {P : Program} {C : Cfg} (htt : TTok P C.tt) {F : Fr} {st st' : St} {all : Array Oper} {o : Oper} {obs : List Prop} {a : Act} {w : World} (hr : Rep F st a w)
    (h : stepStore C st all o = some (obs, st')) (ho : ∀ p ∈ obs, p) :
    Region.wanted o (yielded all a.tmps) = true ∧ ∃ w', (execOp a.eval o).run P w = .ok .skip w' ∧ Rep F st' (a.put o.dst undef) w' := by
  unfold stepStore at h
  split at h
  · rename_i cs ks obs' hg
    split at h
    · rename_i obs2 H he
      simp only [Option.map_eq_some_iff, Prod.mk.injEq] at h
      obtain ⟨s, hs, h1, h2⟩ := h
      subst h1; subst h2
      obtain ⟨w', e1, e2⟩ := evStore_sound htt hr.env hr.mem rfl he (fun p hp => ho p (by simp [hp]))
      refine ⟨wanted_zero hr.env hg (fun p hp => ho p (by simp [hp])), w', e1, ?_⟩
      have hput := putS_sound (hr.env.same (st' := { st with hp := H }) rfl rfl rfl rfl) (Nat.zero_le _) hs
      simp only [cnd, if_true, den] at hput
      obtain ⟨f1, f2, f3, f4, f5⟩ := putS_fields hs
      refine Rep.of_mem hput ?_
      rw [f1, f2, f3]
      exact e2
    · cases h
  · cases h
end Go.SX
namespace Go.SX
open Go
inductive W where
  | code (c : Code)
  | ops (all : Array Oper) (l : List Oper)
  | opsD (all : Array Oper) (hp0 : Hp) (l : List (Nat × Nat))
  | inBlock (id : Nat)
  | inv (I : Act → World → Prop)
  | retn
def thaw (H : Hp) : Hp := H.map fun e => (e.1, true, e.2.2)
def frz (H : Hp) : Hp := if H.all (fun e => e.2.1) then [] else H.map fun e => (e.1, e.2.1, if e.2.1 then .any else e.2.2)
def fixB (H : Hp) (i : Nat) : Hp := match H[i]? with
  | some e => H.set i (e.1, false, e.2.2)
  | none => H
def rootIx (st : St) (t : Nat) : Nat := match look st.env t with
  | some (_, .ptr j _ _) => j
  | some (_, .sl j _ _ _ _ _ _) => j
  | some (_, .el j _ _ _ _ _) => j
  | some (_, .mp j _) => j
  | _ => 0
def Froz : Hp → Hp → Prop
  | [], _ => True
  | _ :: _, [] => False
  | e :: r, e' :: r' => (e.1 = e'.1 ∧ (e.2.2 = .any ∨ e.2.2 = e'.2.2)) ∧ Froz r r'
theorem HpRep.thaw {H : Hp} {w : World} (h : HpRep H w) : HpRep (thaw H) w := by
  intro i b m o hi
  simp only [SX.thaw, List.getElem?_map, Option.map_eq_some_iff] at hi
  obtain ⟨e, he, h1⟩ := hi
  cases h1
  exact h i _ _ _ he
theorem HpRep.frz {H : Hp} {w : World} (h : HpRep H w) : HpRep (frz H) w := by
  unfold SX.frz
  split
  · intro i b m o hi; simp at hi
  · intro i b m o hi
    simp only [List.getElem?_map, Option.map_eq_some_iff] at hi
    obtain ⟨e, he, h1⟩ := hi
    have h2 := h i _ _ _ he
    cases h1
    split
    · exact SO.rep_lt h2
    · exact h2
theorem get_set' {α : Type} {l : List α} {i j : Nat} {x : α} (h : i < l.length) : (l.set i x)[j]? = if i = j then some x else l[j]? := by
  rw [List.getElem?_set]
  split <;> simp [h]
theorem HpRep_fixB (H : Hp) (i : Nat) (w : World) : HpRep (fixB H i) w ↔ HpRep H w := by
  unfold fixB
  split
  · rename_i e he
    have hlt := (List.getElem?_eq_some_iff.1 he).1
    constructor
    · intro h j b m o hj
      by_cases hij : i = j
      · subst hij
        rw [he] at hj
        cases hj
        exact h i _ false _ (by rw [get_set' hlt, if_pos rfl])
      · exact h j b m o (by rw [get_set' hlt, if_neg hij]; exact hj)
    · intro h j b m o hj
      rw [get_set' hlt] at hj
      split at hj
      · cases hj; exact h i _ _ _ he
      · exact h j b m o hj
  · exact Iff.rfl
theorem frz_fixB (H : Hp) (i : Nat) (w : World) (h : HpRep (frz (fixB H i)) w) : HpRep (frz H) w := by
  by_cases hall : H.all (fun e => e.2.1) = true
  · unfold SX.frz
    rw [if_pos hall]
    intro i b m o hi; simp at hi
  · have e1 : frz H = H.map fun e => (e.1, e.2.1, if e.2.1 then .any else e.2.2) := by unfold SX.frz; rw [if_neg hall]
    rw [e1]
    unfold fixB at h
    split at h
    · rename_i e he
      have hlt := (List.getElem?_eq_some_iff.1 he).1
      have hn : ¬ (H.set i (e.1, false, e.2.2)).all (fun e => e.2.1) = true := by
        intro hc
        rw [List.all_eq_true] at hc
        have := hc (e.1, false, e.2.2) (List.mem_of_getElem? (i := i) (by rw [get_set' hlt, if_pos rfl]))
        simp at this
      unfold SX.frz at h
      rw [if_neg hn] at h
      intro j b m o hj
      simp only [List.getElem?_map, Option.map_eq_some_iff] at hj
      obtain ⟨e', he', h1⟩ := hj
      by_cases hij : i = j
      · subst hij
        rw [he] at he'
        cases he'
        have h2 := h i e.1 false e.2.2 (by rw [List.getElem?_map, get_set' hlt, if_pos rfl]; rfl)
        cases h1
        split
        · exact SO.rep_lt h2
        · exact h2
      · refine h j b m o ?_
        rw [List.getElem?_map, get_set' hlt, if_neg hij, he']
        exact congrArg some h1
    · rw [e1] at h; exact h
theorem frz_frz (H : Hp) : frz (frz H) = frz H := by
  by_cases hall : H.all (fun e => e.2.1) = true
  · have e1 : frz H = [] := by unfold SX.frz; rw [if_pos hall]
    rw [e1]; rfl
  · have e1 : frz H = H.map fun e => (e.1, e.2.1, if e.2.1 then .any else e.2.2) := by unfold SX.frz; rw [if_neg hall]
    rw [e1]
    have h2 : ¬ (H.map fun e => (e.1, e.2.1, if e.2.1 then SO.any else e.2.2)).all (fun e => e.2.1) = true := by
      intro hc
      apply hall
      rw [List.all_eq_true] at hc ⊢
      intro e he
      have h3 := hc (e.1, e.2.1, if e.2.1 then SO.any else e.2.2) (List.mem_map.2 ⟨e, he, rfl⟩)
      exact h3
    unfold SX.frz
    rw [if_neg h2, List.map_map]
    refine List.map_congr_left fun e _ => ?_
    simp only [Function.comp]
    split <;> simp_all
theorem Froz.rep : ∀ {A B : Hp} {w : World}, Froz A B → HpRep B w → HpRep A w
  | [], _, _, _, _ => fun i b m o hi => by simp at hi
  | _ :: _, [], _, h, _ => h.elim
  | e :: r, e' :: r', w, h, hB => fun i b m o hi => by
    cases i with
    | zero =>
      cases hi
      have h1 := hB 0 e'.1 e'.2.1 e'.2.2 rfl
      obtain ⟨⟨h2, h3⟩, _⟩ := h
      simp only at h2 h3
      rcases h3 with h3 | h3
      · rw [h3, h2]; exact SO.rep_lt h1
      · rw [h3, h2]; exact h1
    | succ i => exact Froz.rep h.2 (fun i b m o hi => hB (i + 1) b m o hi) i b m o hi
def post (P : Program) (Q : Exit → Act → World → Prop) : List W → Exit → Act → World → Prop
  | [], e, a, w => Q e a w
  | .code c :: k, .normal, a, w => c.wp P (post P Q k) a w
  | .ops all l :: k, .normal, a, w => wpList P all (post P Q k) l a w
  | .opsD all hp0 l :: k, .normal, a, w => wpSeqD P all (post P Q k) (HpRep hp0) (HpRep (frz hp0)) l a w
  | .inBlock id :: k, .exit id', a, w => if id' = id then post P Q k .normal a w else post P Q k (.exit id') a w
  | .inv I :: _, .normal, a, w => I a w
  | .retn :: _, .normal, a, w => Q .ret a w
  | _ :: k, e, a, w => post P Q k e a w
theorem post_ret {P : Program} {Q : Exit → Act → World → Prop} {a : Act} {w : World} : ∀ k : List W, Q .ret a w → post P Q k .ret a w
  | [], h => h
  | .code _ :: k, h => post_ret k h
  | .ops _ _ :: k, h => post_ret k h
  | .opsD _ _ _ :: k, h => post_ret k h
  | .inBlock _ :: k, h => post_ret k h
  | .inv _ :: k, h => post_ret k h
  | .retn :: k, h => post_ret k h
theorem post_panic {P : Program} {Q : Exit → Act → World → Prop} {c : List PanicEntry} {a : Act} {w : World} : ∀ k : List W, post P Q k (.panic c) a w ↔ Q (.panic c) a w
  | [] => Iff.rfl
  | .code _ :: k => post_panic k
  | .ops _ _ :: k => post_panic k
  | .opsD _ _ _ :: k => post_panic k
  | .inBlock _ :: k => post_panic k
  | .inv _ :: k => post_panic k
  | .retn :: k => post_panic k
def popTo (id : Nat) : List W → Option (List W)
  | [] => none
  | .inBlock id' :: k => if id == id' then some k else popTo id k
  | .inv _ :: k => popTo id k
  | .retn :: _ => none
  | _ :: k => popTo id k
theorem post_exit {P : Program} {Q : Exit → Act → World → Prop} {id : Nat} {a : Act} {w : World} : ∀ (k k' : List W), popTo id k = some k' → post P Q k' .normal a w → post P Q k (.exit id) a w
  | [], _, h, _ => by cases h
  | .code _ :: k, k', h, hq => post_exit k k' h hq
  | .ops _ _ :: k, k', h, hq => post_exit k k' h hq
  | .opsD _ _ _ :: k, k', h, hq => post_exit k k' h hq
  | .inv _ :: k, k', h, hq => post_exit k k' h hq
  | .retn :: k, _, h, _ => by cases h
  | .inBlock id' :: k, k', h, hq => by
    simp only [popTo] at h
    split at h
    · rename_i e
      cases h
      have e' : id = id' := by simpa using e
      simp only [post, if_pos e']
      exact hq
    · rename_i e
      have e' : ¬ id = id' := by simpa using e
      simp only [post, if_neg e']
      exact post_exit k k' h hq
def lookC (env : List (Nat × Nat × SV)) (t : Nat) : Bool :=
  match look env t with
  | some (0, _) => true
  | _ => false
def leave (live : List Nat) (st : St) : St :=
  if st.cs.isEmpty then { st with env := st.env.filter fun e => live.contains e.1, ks := [] }
  else { st with env := st.env.filter fun e => live.contains e.1 && lookC st.env e.1, cs := [], ks := [] }
theorem look_filter {g : Nat → Bool} : ∀ (l : List (Nat × Nat × SV)) (t : Nat), look (l.filter fun e => g e.1) t = if g t then look l t else none
  | [], t => by simp [look]
  | (u, c, x) :: l, t => by
    simp only [List.filter_cons]
    by_cases hu : g u = true
    · simp only [hu, if_true, look]
      by_cases hut : (u == t) = true
      · have : u = t := by simpa using hut
        subst this
        simp [hu]
      · simp only [hut, Bool.false_eq_true, if_false, look_filter l t]
    · simp only [hu, Bool.false_eq_true, if_false, look, look_filter l t]
      by_cases hut : (u == t) = true
      · have : u = t := by simpa using hut
        subst this
        simp [hu]
      · simp [hut]
theorem leave_env {live : List Nat} {st : St} {a : Act} (h : EnvRep st a) : EnvRep (leave live st) a := by
  obtain ⟨h1, h2, h3, h4⟩ := h
  unfold leave
  split
  · refine ⟨h1, h2, fun t c x hx => ?_, fun r hr => by cases hr⟩
    rw [look_filter] at hx
    split at hx
    · exact h3 t c x hx
    · cases hx
  · refine ⟨h1, h2, fun t c x hx => ?_, fun r hr => by cases hr⟩
    have e := look_filter (g := fun s => live.contains s && lookC st.env s) st.env t
    simp only [] at e hx
    rw [e] at hx
    split at hx
    · rename_i hg
      simp only [Bool.and_eq_true, lookC] at hg
      rw [hx] at hg
      cases c with
      | zero =>
        obtain ⟨_, b2⟩ := h3 t 0 x hx
        exact ⟨Nat.zero_le _, b2⟩
      | succ n => simp at hg
    · cases hx
theorem leave_rep {F : Fr} {live : List Nat} {st : St} {a : Act} {w : World} (h : Rep F st a w) : Rep F (leave live st) a w := by
  refine Rep.of_mem (leave_env h.env) ?_
  have e : (leave live st).hp = st.hp ∧ (leave live st).s = st.s ∧ (leave live st).k = st.k := by unfold leave; split <;> exact ⟨rfl, rfl, rfl⟩
  rw [e.1, e.2.1, e.2.2]
  exact h.mem
def lookN : List (Nat × List (Nat × Nat)) → Nat → Option (List (Nat × Nat))
  | [], _ => none
  | (u, d) :: r, t => if u == t then some d else lookN r t
def okC (dt : List (Nat × List (Nat × Nat))) : Code → Bool
  | .region id ops true => match lookN dt id with
    | some ord => ordOK ops ord
    | none => true
  | .seq x y => okC dt x && okC dt y
  | .cond _ x y => okC dt x && okC dt y
  | .block _ x => okC dt x
  | .loop x => okC dt x
  | .scope x => okC dt x
  | _ => true
def okT (dt : List (Nat × List (Nat × Nat))) : List W → Bool
  | [] => true
  | .code c :: k => okC dt c && okT dt k
  | .opsD _ _ _ :: _ => false
  | .ops _ _ :: k => okT dt k
  | .inBlock _ :: k => okT dt k
  | .inv _ :: k => okT dt k
  | .retn :: k => okT dt k
def okW (dt : List (Nat × List (Nat × Nat))) : List W → Bool
  | .opsD _ _ _ :: k => okT dt k
  | k => okT dt k
theorem okT_pop {dt : List (Nat × List (Nat × Nat))} {id : Nat} : ∀ (k k' : List W), popTo id k = some k' → okT dt k = true → okT dt k' = true
  | [], _, h, _ => by cases h
  | .code _ :: k, k', h, hq => okT_pop k k' h (by simp only [okT, Bool.and_eq_true] at hq; exact hq.2)
  | .ops _ _ :: k, k', h, hq => okT_pop k k' h hq
  | .opsD _ _ _ :: k, k', h, hq => by cases hq
  | .inv _ :: k, k', h, hq => okT_pop k k' h hq
  | .retn :: k, _, h, _ => by cases h
  | .inBlock id' :: k, k', h, hq => by
    simp only [popTo] at h
    split at h
    · cases h; exact hq
    · exact okT_pop k k' h hq
def AllP : List Prop → Prop
  | [] => True
  | p :: l => p ∧ AllP l
theorem AllP.mem : ∀ {l : List Prop}, AllP l → ∀ p ∈ l, p
  | _ :: _, h, p, hp => by
    rcases List.mem_cons.1 hp with rfl | hp
    · exact h.1
    · exact AllP.mem h.2 p hp
def okTop (k : List W) (w : World) : Prop :=
  match k with
  | .opsD _ hp0 _ :: _ => HpRep hp0 w
  | _ => True
theorem okT_top {dt : List (Nat × List (Nat × Nat))} {k : List W} (h : okT dt k = true) (w : World) : okTop k w := by
  cases k with
  | nil => trivial
  | cons x k => cases x <;> first | trivial | cases h
theorem okT_W {dt : List (Nat × List (Nat × Nat))} {k : List W} (h : okT dt k = true) : okW dt k = true := by
  cases k with
  | nil => rfl
  | cons x k => cases x <;> first | exact h | cases h
theorem okW_code {dt : List (Nat × List (Nat × Nat))} {c : Code} {k : List W} (h : okW dt (.code c :: k) = true) : okC dt c = true ∧ okT dt k = true := by
  simpa only [okW, okT, Bool.and_eq_true] using h
def tails : List (Nat × Nat) → Bool
  | [] => true
  | (_, k) :: l => (2 ≤ k) && tails l
theorem tails_take : ∀ (l : List (Nat × Nat)) (n : Nat), tails l = true → tails (l.take n) = true ∧ tails (l.drop n) = true
  | [], n, _ => by simp [tails]
  | (i, k) :: l, 0, h => by simp [tails] at h ⊢; exact h
  | (i, k) :: l, n + 1, h => by
    simp only [tails, Bool.and_eq_true, List.take_succ_cons, List.drop_succ_cons] at h ⊢
    have := tails_take l n h.2
    exact ⟨⟨h.1, this.1⟩, this.2⟩
theorem seqD_tails {P : Program} {all : Array Oper} {Q : Exit → Act → World → Prop} {S S' : World → Prop} (T : World → Prop) (l : List (Nat × Nat)) (a : Act) (w : World) (ht : tails l = true) (h : wpSeqD P all Q S T l a w) : wpSeqD P all Q S' T l a w :=
  match l, ht, h with
  | [], _, h => by unfold wpSeqD at h ⊢; exact h
  | (i, k) :: l, ht, h => by
    have htt : tails l = true := by
      simp only [tails, Bool.and_eq_true] at ht
      exact ht.2
    have hk2 : 2 ≤ k := by
      simp only [tails, Bool.and_eq_true, decide_eq_true_eq] at ht
      exact ht.1
    have e0 : (k == 0) = false := by simp; omega
    have e1 : (k == 1) = false := by simp; omega
    unfold wpSeqD at h ⊢
    simp only [e0, e1, Bool.false_eq_true, if_false] at h ⊢
    split
    · rename_i h2
      simp only [h2, if_true] at h
      obtain ⟨o, v, ho, hy, hr⟩ := h
      exact ⟨o, v, ho, hy, seqD_tails T l _ w htt hr⟩
    · rename_i h2
      simp only [h2, Bool.false_eq_true, if_false] at h
      split
      · rename_i h3
        simp only [h3, if_true] at h
        exact wpOp_mono (fun a' w' h' => ⟨h'.1, seqD_tails T l a' w' htt h'.2⟩) h
      · rename_i h3
        simp only [h3, Bool.false_eq_true, if_false] at h
        split
        · rename_i h4
          simp only [h4, if_true] at h
          have h5 := tails_take l i htt
          exact ⟨seqD_tails T _ a w h5.1 h.1, seqD_tails T _ a w h5.2 h.2⟩
        · rename_i h4
          simp only [h4, Bool.false_eq_true, if_false] at h
          obtain ⟨o, v, T', ho, hy, hT', hTT, hr⟩ := h
          exact ⟨o, v, T', ho, hy, hT', hTT, seqD_tails T' l _ w htt hr⟩
termination_by l.length
decreasing_by all_goals (simp only [List.length_cons, List.length_take, List.length_drop]; omega)
def sxStep (C : Cfg) (st : St) (all : Array Oper) (o : Oper) : Option (List Prop × St) :=
  match stepPure C st st.hp all o with
  | some r => some r
  | none => match stepNew C st all o with
    | some r => some r
    | none => stepStore C st all o
def stepKeep (C : Cfg) (st : St) (all : Array Oper) (o : Oper) : Option (List Prop × St) :=
  match stepPure C st st.hp all o with
  | some r => some r
  | none => stepNew C st all o
def Ob (p : Prop) : Prop := p
theorem AllP.append : ∀ {l m : List Prop}, AllP (l ++ m) → AllP l ∧ AllP m
  | [], _, h => ⟨trivial, h⟩
  | _ :: l, m, h => by
    obtain ⟨h1, h2⟩ := AllP.append (l := l) h.2
    exact ⟨⟨h.1, h1⟩, h2⟩
abbrev Rec := List Bool → List Prop → List W → St → (List W → St → Prop) → Prop
def stop (acc : List Prop) (k : List W) (st : St) (K : List W → St → Prop) : Prop := Ob (AllP acc) ∧ K k st
def contS (r : Rec) (x : Option (List Prop × St)) (orc : List Bool) (acc : List Prop) (k' k : List W) (st : St) (K : List W → St → Prop) : Prop :=
  match x with
  | some (obs, st') => r orc (acc ++ obs) k' st' K
  | none => stop acc k st K
def contB (r : Rec) (x : Option SV) (d : Bool) (orc : List Bool) (acc : List Prop) (k' k : List W) (st : St) (K : List W → St → Prop) : Prop :=
  match x with
  | some (.v (.bool b)) => r orc (acc ++ [b = d]) k' st K
  | _ => stop acc k st K
def contW (r : Rec) (x : Option (List W)) (orc : List Bool) (acc : List Prop) (k : List W) (st : St) (K : List W → St → Prop) : Prop :=
  match x with
  | some k' => r orc acc k' st K
  | none => stop acc k st K
def contR (r : Rec) (x : Option (List (Nat × Nat))) (ops : Array Oper) (orc : List Bool) (acc : List Prop) (k' k : List W) (st : St) (K : List W → St → Prop) : Prop :=
  match x with
  | some ord => r orc acc (.opsD ops (thaw st.hp) ord :: k') st K
  | none => stop acc k st K
def frzStep (H : Hp) : Option (List Prop × St) → Option (List Prop × St)
  | some (obs, st') => some (obs ++ [Froz H st'.hp], st')
  | none => none
def contD (C : Cfg) (r : Rec) (x : Option Oper) (all : Array Oper) (hp0 : Hp) (kd : Nat) (l : List (Nat × Nat)) (orc : List Bool) (acc : List Prop) (k' k : List W) (st : St) (K : List W → St → Prop) : Prop :=
  match x with
  | none => stop acc k st K
  | some o => if kd == 0 then contS r (stepPure C st hp0 all o) orc acc (.opsD all hp0 l :: k') k st K
    else if kd == 1 then contS r (stepKeep C st all o) orc acc (.opsD all hp0 l :: k') k st K
    else if kd == 2 then contS r (stepPure C st [] all o) orc acc (.opsD all hp0 l :: k') k st K
    else if kd == 3 then (if tails l then contS r (frzStep (frz hp0) (sxStep C st all o)) orc acc (.opsD all (frz hp0) l :: k') k st K else stop acc k st K)
    else if kd == fork then stop acc k st K
    else contS r (stepPure C st (frz (fixB hp0 (rootIx st (kd - 4)))) all o) orc acc (.opsD all (fixB hp0 (rootIx st (kd - 4))) l :: k') k st K
def vc (C : Cfg) : Nat → List Bool → List Prop → List W → St → (List W → St → Prop) → Prop
  | 0, _, acc, k, st, K => stop acc k st K
  | n + 1, orc, acc, k, st, K =>
    match k with
    | .code c :: k' => match c with
      | .skip => vc C n orc acc k' st K
      | .label _ => vc C n orc acc k' st K
      | .seq x y => vc C n orc acc (.code x :: .code y :: k') st K
      | .block id x => vc C n orc acc (.code x :: .inBlock id :: k') st K
      | .region _ ops false => vc C n orc acc (.ops ops ops.toList :: k') st K
      | .region id ops true => contR (vc C n) (lookN C.dt id) ops orc acc k' k st K
      | .cond c x y => match orc with
        | [] => stop acc k st K
        | d :: orc' => contB (vc C n) (opd st 0 c) d orc' acc (.code (if d then x else y) :: k') k st K
      | .exit id => contW (vc C n) (popTo id k') orc acc k st K
      | .ret => stop acc [.retn] st K
      | _ => stop acc k st K
    | .ops _ [] :: k' => vc C n orc acc k' (leave C.live st) K
    | .ops all (o :: l) :: k' => contS (vc C n) (sxStep C st all o) orc acc (.ops all l :: k') k st K
    | .opsD _ _ [] :: k' => vc C n orc acc k' (leave C.live st) K
    | .opsD all hp0 ((i, kd) :: l) :: k' => contD C (vc C n) all[i]? all hp0 kd l orc acc k' k st K
    | .inBlock _ :: k' => vc C n orc acc k' st K
    | _ => stop acc k st K
theorem vc_acc {C : Cfg} : ∀ (n : Nat) (orc : List Bool) (acc : List Prop) (k : List W) (st : St) (K : List W → St → Prop), vc C n orc acc k st K → AllP acc
  | 0, _, _, _, _, _, h => h.1
  | n + 1, orc, acc, k, st, K, h => by
    have ih := vc_acc (C := C) n
    unfold vc at h
    simp only [contS, contB, contW, contR, contD] at h
    repeat' split at h
    all_goals first
      | exact h.1
      | exact ih _ _ _ _ _ h
      | exact (AllP.append (ih _ _ _ _ _ h)).1
theorem HpRep.nil {w : World} : HpRep [] w := fun i b m o h => by simp at h
theorem HpRep.drew {H : Hp} {w : World} {n : Nat} (h : HpRep H w) : HpRep H { w with drawn := n } := fun i b m o hi => SO.rep_same (h i b m o hi) rfl
theorem Rep.drew {F : Fr} {st : St} {a : Act} {w : World} {n : Nat} (h : Rep F st a w) : Rep F st a { w with drawn := n } :=
  ⟨h.env, HpRep.drew h.hp, h.mu, h.nd, h.sz, ⟨h.kp.hB, h.kp.os, h.kp.tape, h.kp.output, h.kp.size, h.kp.block⟩⟩
theorem yields_wpOp {P : Program} {all : Array Oper} {Q : Exit → Act → World → Prop} {S : World → Prop} {o : Oper} {v : Value} {a : Act} {w : World} {K : Act → World → Prop} (hy : YieldsIf P all S o v a) (hS : S w) (h : K (a.put o.dst v) w) :
    if Region.wanted o (yielded all a.tmps) then o.wp P a w K Q ∨ (o.asks P a w ∧ LetsOut Q) else K (a.put o.dst undef) w := by
  rcases hy with ⟨hw, hv⟩ | ⟨hw, rfl⟩
  · simp only [hw, if_true, Oper.wp, hv w hS, Oper.upon]; exact .inl h
  · simp only [hw, Bool.false_eq_true, if_false]; exact h
theorem sxStep_sound {P : Program} {C : Cfg} (htt : TTok P C.tt) {F : Fr} {st st' : St} {all : Array Oper} {o : Oper} {obs : List Prop} {a : Act} {w : World} {Q : Exit → Act → World → Prop} {K : Act → World → Prop} (hr : Rep F st a w)
    (h : sxStep C st all o = some (obs, st')) (ho : ∀ p ∈ obs, p) (hK : ∀ a' w', Rep F st' a' w' → K a' w') :
    if Region.wanted o (yielded all a.tmps) then o.wp P a w K Q ∨ (o.asks P a w ∧ LetsOut Q) else K (a.put o.dst undef) w := by
  unfold sxStep at h
  split at h
  · rename_i r hs
    cases h
    obtain ⟨v, hy, he, f1, f2, f3, f4⟩ := stepPure_sound htt hr.env hs ho
    refine yields_wpOp hy hr.hp (hK _ _ (Rep.of_mem he ?_))
    rw [f1, f2, f3]; exact hr.mem
  · split at h
    · rename_i r hs
      cases h
      obtain ⟨hw, v, ob, e1, e2⟩ := stepNew_sound htt hr hs ho
      simp only [hw, if_true, Oper.wp, e1, Oper.upon]
      exact .inl (hK _ _ e2)
    · obtain ⟨hw, w', e1, e2⟩ := stepStore_sound htt hr h ho
      simp only [hw, if_true, Oper.wp, e1, Oper.upon]
      exact .inl (hK _ _ e2)
theorem stepKeep_sound {P : Program} {C : Cfg} (htt : TTok P C.tt) {F : Fr} {st st' : St} {all : Array Oper} {o : Oper} {obs : List Prop} {a : Act} {w : World} {Q : Exit → Act → World → Prop} {K : Act → World → Prop} (hr : Rep F st a w) {H : Hp} (hH : HpRep H w)
    (h : stepKeep C st all o = some (obs, st')) (ho : ∀ p ∈ obs, p) (hK : ∀ a' w', Rep F st' a' w' → HpRep H w' → K a' w') :
    if Region.wanted o (yielded all a.tmps) then o.wp P a w K Q ∨ (o.asks P a w ∧ LetsOut Q) else K (a.put o.dst undef) w := by
  unfold stepKeep at h
  split at h
  · rename_i r hs
    cases h
    obtain ⟨v, hy, he, f1, f2, f3, f4⟩ := stepPure_sound htt hr.env hs ho
    refine yields_wpOp hy hr.hp (hK _ _ (Rep.of_mem he ?_) hH)
    rw [f1, f2, f3]; exact hr.mem
  · obtain ⟨hw, v, ob, e1, e2⟩ := stepNew_sound htt hr h ho
    simp only [hw, if_true, Oper.wp, e1, Oper.upon]
    exact .inl (hK _ _ e2 (hH.alloc ob))
def PanicFree (Q : Exit → Act → World → Prop) : Prop := ∀ c (a : Act) d v w, Q (.panic c) (a.put d v) w → Q (.panic c) a w
theorem PanicFree.body {P : Program} {fn : Func} {R : Ending → World → Prop} : PanicFree (bodyPost P fn R) := fun c a d v w h => by
  cases d <;> exact h
theorem PanicFree.post {P : Program} {Q : Exit → Act → World → Prop} (h : PanicFree Q) (k : List W) : PanicFree (post P Q k) := fun c a d v w hp =>
  (post_panic k).2 (h c a d v w ((post_panic k).1 hp))
theorem vc_sound {P : Program} {C : Cfg} (htt : TTok P C.tt) (hm : P.follows .mixedOrders = true) {Q : Exit → Act → World → Prop} (hQ : PanicFree Q) {F : Fr} :
    ∀ (n : Nat) (orc : List Bool) (acc : List Prop) (k : List W) (st : St) (K : List W → St → Prop) (a : Act) (w : World), Rep F st a w → okTop k w → okW C.dt k = true → vc C n orc acc k st K →
      (∀ k' st' a' w', K k' st' → Rep F st' a' w' → okTop k' w' → post P Q k' .normal a' w') → post P Q k .normal a w
  | 0, orc, acc, k, st, K, a, w, hr, ht, _, h, hK => hK k st a w h.2 hr ht
  | n + 1, orc, acc, k, st, K, a, w, hr, ht, hk, h, hK => by
    have ih := vc_sound htt hm hQ (F := F) n
    unfold vc at h
    simp only [contS, contB, contW, contR, contD] at h
    split at h
    · rename_i c k'
      have hk' := okW_code hk
      split at h
      · exact wp_skip (ih _ _ _ _ K a w hr (okT_top hk'.2 w) (okT_W hk'.2) h hK)
      · exact wp_label (ih _ _ _ _ K a w hr (okT_top hk'.2 w) (okT_W hk'.2) h hK)
      · rename_i x y
        simp only [okC, Bool.and_eq_true] at hk'
        have := ih _ _ (.code x :: .code y :: k') _ K a w hr trivial (by simp [okW, okT, hk']) h hK
        refine wp_seq (Code.wp_mono (fun e a w q => ?_) this)
        cases e <;> exact q
      · rename_i id x
        simp only [okC] at hk'
        have := ih _ _ (.code x :: .inBlock id :: k') _ K a w hr trivial (by simp [okW, okT, hk']) h hK
        refine wp_block (Code.wp_mono (fun e a w q => ?_) this)
        cases e <;> exact q
      · rename_i id ops
        have := ih _ _ (.ops ops ops.toList :: k') _ K a w hr trivial (by simp [okW, okT, hk']) h hK
        exact wp_region_list this
      · rename_i id ops
        split at h
        · rename_i ord hd
          simp only [okC, hd] at hk'
          have := ih _ _ (.opsD ops (thaw st.hp) ord :: k') _ K a { w with drawn := w.drawn + 1 } hr.drew (HpRep.thaw (HpRep.drew hr.hp)) (by simp [okW, hk']) h hK
          exact wp_region_seqD hm hk'.1 (fun c a d v w => hQ.post k' c a d v w) (HpRep.thaw (HpRep.drew hr.hp)) (HpRep.frz (HpRep.thaw (HpRep.drew hr.hp))) this
        · exact hK _ _ a w h.2 hr ht
      · rename_i c x y
        split at h
        · exact hK _ _ a w h.2 hr ht
        · rename_i d orc'
          split at h
          · rename_i b hb
            have h1 : b = d := ((vc_acc _ _ _ _ _ _ h |> AllP.append).2).1
            have h2 := h
            subst h1
            have hc : a.eval c = .bool b := opd_sound (c := 0) hr.env rfl hb
            simp only [okC, Bool.and_eq_true] at hk'
            have := ih _ _ (.code (if b then x else y) :: k') _ K a w hr trivial (by cases b <;> simp [okW, okT, hk']) h2 hK
            exact wp_cond hc this
          · exact hK _ _ a w h.2 hr ht
      · rename_i id
        split at h
        · rename_i k'' hp
          have h2 := okT_pop k' k'' hp hk'.2
          exact wp_exit (post_exit k' k'' hp (ih _ _ _ _ K a w hr (okT_top h2 w) (okT_W h2) h hK))
        · exact hK _ _ a w h.2 hr ht
      · exact wp_ret (post_ret k' (hK _ _ a w h.2 hr trivial))
      · exact hK _ _ a w h.2 hr ht
    · rename_i all k'
      have hk' : okT C.dt k' = true := hk
      exact ih _ _ k' _ K a w (leave_rep hr) (okT_top hk' w) (okT_W hk') h hK
    · rename_i all o l k'
      have hk' : okT C.dt k' = true := hk
      split at h
      · rename_i obs st' hs
        have h1 := (AllP.append (vc_acc _ _ _ _ _ _ h)).2
        have h2 := h
        have := sxStep_sound (Q := post P Q k') (K := wpList P all (post P Q k') l) htt hr hs h1.mem (fun a' w' hr' => ih _ _ (.ops all l :: k') _ K a' w' hr' trivial hk' h2 hK)
        show wpList P all (post P Q k') (o :: l) a w
        unfold wpList
        exact this
      · exact hK _ _ a w h.2 hr ht
    · rename_i all hp0 k'
      have hk' : okT C.dt k' = true := hk
      show wpSeqD P all (post P Q k') (HpRep hp0) (HpRep (frz hp0)) [] a w
      unfold wpSeqD
      exact ih _ _ k' _ K a w (leave_rep hr) (okT_top hk' w) (okT_W hk') h hK
    · rename_i all hp0 i kd l k'
      have hk' : okT C.dt k' = true := hk
      split at h
      · exact hK _ _ a w h.2 hr ht
      · rename_i o hi
        show wpSeqD P all (post P Q k') (HpRep hp0) (HpRep (frz hp0)) ((i, kd) :: l) a w
        split at h
        · rename_i hkd
          split at h
          · rename_i obs st' hs
            have h1 := (AllP.append (vc_acc _ _ _ _ _ _ h)).2
            have h2 := h
            obtain ⟨v, hy, he, f1, f2, f3, f4⟩ := stepPure_sound htt hr.env hs h1.mem
            have hr' : Rep F st' (a.put o.dst v) w := Rep.of_mem he (by rw [f1, f2, f3]; exact hr.mem)
            simp only [wpSeqD, hkd, if_true]
            exact ⟨o, v, hi, hy, ih _ _ (.opsD all hp0 l :: k') _ K _ w hr' ht hk' h2 hK⟩
          · exact hK _ _ a w h.2 hr ht
        · rename_i hkd
          split at h
          · rename_i hkd1
            split at h
            · rename_i obs st' hs
              have h1 := (AllP.append (vc_acc _ _ _ _ _ _ h)).2
              have h2 := h
              simp only [wpSeqD, hkd, hkd1, if_true, Bool.false_eq_true, if_false]
              unfold wpOp
              simp only [hi]
              exact stepKeep_sound htt hr ht hs h1.mem (fun a' w' hr' hH => ⟨hH, HpRep.frz hH, ih _ _ (.opsD all hp0 l :: k') _ K a' w' hr' hH hk' h2 hK⟩)
            · exact hK _ _ a w h.2 hr ht
          · rename_i hkd1
            split at h
            · rename_i hkd2
              split at h
              · rename_i obs st' hs
                have h1 := (AllP.append (vc_acc _ _ _ _ _ _ h)).2
                have h2 := h
                obtain ⟨v, hy, he, f1, f2, f3, f4⟩ := stepPure_sound htt hr.env hs h1.mem
                have hr' : Rep F st' (a.put o.dst v) w := Rep.of_mem he (by rw [f1, f2, f3]; exact hr.mem)
                simp only [wpSeqD, hkd, hkd1, hkd2, if_true, Bool.false_eq_true, if_false]
                refine ⟨o, v, hi, ?_, ih _ _ (.opsD all hp0 l :: k') _ K _ w hr' ht hk' h2 hK⟩
                exact hy.imp (fun ⟨x, y⟩ => ⟨x, fun w _ => y w HpRep.nil⟩) id
              · exact hK _ _ a w h.2 hr ht
            · rename_i hkd2
              split at h
              · rename_i hkd3
                split at h
                · rename_i htl
                  split at h
                  · rename_i obs st' hs
                    have h1 := (AllP.append (vc_acc _ _ _ _ _ _ h)).2
                    have h2 := h
                    simp only [wpSeqD, hkd, hkd1, hkd2, hkd3, if_true, Bool.false_eq_true, if_false]
                    unfold frzStep at hs
                    split at hs
                    · rename_i obs3 st3 hs3
                      cases hs
                      have h4 := AllP.append h1
                      unfold wpOp
                      simp only [hi]
                      refine sxStep_sound htt hr hs3 h4.1.mem (fun a' w' hr' => ?_)
                      have h5 : HpRep (frz hp0) w' := Froz.rep h4.2.1 hr'.hp
                      have h6 := ih _ _ (.opsD all (frz hp0) l :: k') _ K a' w' hr' h5 hk' h2 hK
                      change wpSeqD P all (post P Q k') (HpRep (frz hp0)) (HpRep (frz (frz hp0))) l a' w' at h6
                      rw [frz_frz] at h6
                      exact ⟨h5, seqD_tails _ l _ _ htl h6⟩
                    · cases hs
                  · exact hK _ _ a w h.2 hr ht
                · exact hK _ _ a w h.2 hr ht
              · rename_i hkd3
                split at h
                · exact hK _ _ a w h.2 hr ht
                rename_i hkd4
                split at h
                · rename_i obs st' hs
                  have h1 := (AllP.append (vc_acc _ _ _ _ _ _ h)).2
                  have h2 := h
                  obtain ⟨v, hy, he, f1, f2, f3, f4⟩ := stepPure_sound htt hr.env hs h1.mem
                  have hr' : Rep F st' (a.put o.dst v) w := Rep.of_mem he (by rw [f1, f2, f3]; exact hr.mem)
                  simp only [wpSeqD, hkd, hkd1, hkd2, hkd3, hkd4, Bool.false_eq_true, if_false]
                  have ht0 : HpRep (fixB hp0 (rootIx st (kd - 4))) w := (HpRep_fixB _ _ _).2 ht
                  have h6 := ih _ _ (.opsD all (fixB hp0 (rootIx st (kd - 4))) l :: k') _ K _ w hr' ht0 hk' h2 hK
                  change wpSeqD P all (post P Q k') (HpRep (fixB hp0 (rootIx st (kd - 4)))) (HpRep (frz (fixB hp0 (rootIx st (kd - 4))))) l _ w at h6
                  have e9 : HpRep (fixB hp0 (rootIx st (kd - 4))) = HpRep hp0 := funext fun w => propext (HpRep_fixB _ _ w)
                  rw [e9] at h6
                  exact ⟨o, v, _, hi, hy, HpRep.frz ht0, fun w => frz_fixB _ _ w, h6⟩
                · exact hK _ _ a w h.2 hr ht
    · rename_i id k'
      have hk' : okT C.dt k' = true := hk
      exact ih _ _ k' _ K a w hr (okT_top hk' w) (okT_W hk') h hK
    · exact hK _ _ a w h.2 hr ht
end Go.SX
namespace Go.SX
open Go Go.RowKit
def RepX (F : Fr) (st : St) (a : Act) (w : World) : Prop := Rep F { st with s := w.heap.size, k := 0 } a w
theorem Rep.x {F : Fr} {st : St} {a : Act} {w : World} (h : Rep F st a w) : RepX F st a w :=
  ⟨h.env, h.hp, h.mu, h.nd, rfl, h.kp⟩
def HpAll (F : Fr) (w : World) : Hp → Prop
  | [] => True
  | (b, m, o) :: r => (o.rep w b ∧ (m = true → F.B ≤ b ∨ b ∈ F.M) ∧ ∀ e ∈ r, b ≠ e.1) ∧ HpAll F w r
theorem HpAll.mem {F : Fr} {w : World} : ∀ {H : Hp}, HpAll F w H → ∀ (i b : Nat) (m : Bool) (o : SO), H[i]? = some (b, m, o) → o.rep w b ∧ (m = true → F.B ≤ b ∨ b ∈ F.M)
  | (b, m, o) :: r, h, 0, b', m', o', hi => by cases hi; exact ⟨h.1.1, h.1.2.1⟩
  | _ :: r, h, i + 1, b', m', o', hi => HpAll.mem h.2 i b' m' o' hi
theorem HpAll.nd {F : Fr} {w : World} {H : Hp} (h : HpAll F w H) : ∀ (i j : Nat) (x y : Nat × Bool × SO), H[i]? = some x → H[j]? = some y → x.1 = y.1 → i = j := by
  induction H with
  | nil => intro i j x y hi; simp at hi
  | cons e r ih =>
    obtain ⟨b, m, o⟩ := e
    intro i j x y hi hj hxy
    cases i with
    | zero => cases j with
      | zero => rfl
      | succ j =>
        simp only [List.getElem?_cons_zero, Option.some.injEq] at hi
        subst hi
        exact absurd hxy (h.1.2.2 y (List.mem_of_getElem? (by simpa using hj)))
    | succ i => cases j with
      | zero =>
        simp only [List.getElem?_cons_zero, Option.some.injEq] at hj
        subst hj
        exact absurd hxy.symm (h.1.2.2 x (List.mem_of_getElem? (by simpa using hi)))
      | succ j => rw [ih h.2 i j x y (by simpa using hi) (by simpa using hj) hxy]
theorem HpAll.memRep {F : Fr} {w : World} {H : Hp} (h : HpAll F w H) (hk : Keeps F w) : MemRep F H w.heap.size 0 w :=
  ⟨fun i b m o hi => (h.mem i b m o hi).1, fun i b o hi => (h.mem i b true o hi).2 rfl, h.nd, rfl, hk⟩
theorem MemRep.all {F : Fr} {w : World} {s k : Nat} : ∀ {H : Hp}, MemRep F H s k w → HpAll F w H
  | [], _ => trivial
  | (b, m, o) :: r, h => by
    refine ⟨⟨h.hp 0 b m o rfl, fun hm => ?_, fun e he => ?_⟩, ?_⟩
    · subst hm; exact h.mu 0 b o rfl
    · obtain ⟨j, hj⟩ := List.getElem?_of_mem he
      intro hbe
      have := h.nd 0 (j + 1) _ e rfl hj hbe
      omega
    · exact MemRep.all (H := r) ⟨fun i b m o hi => h.hp (i + 1) b m o hi, fun i b o hi => h.mu (i + 1) b o hi, fun i j x y hi hj hxy => by have := h.nd (i + 1) (j + 1) x y hi hj hxy; omega, h.sz, h.kp⟩
theorem RepX.all {F : Fr} {st : St} {a : Act} {w : World} (h : RepX F st a w) : HpAll F w st.hp := h.mem.all
theorem RepX.keeps {F : Fr} {st : St} {a : Act} {w : World} (h : RepX F st a w) : Keeps F w := h.kp
def envTo (env : List (Nat × Nat × SV)) : List (Nat × Nat × SV) → Prop
  | [] => True
  | (t, c, x) :: r => (c = 0 ∧ match look env t with
    | some (0, y) => den y = den x
    | _ => False) ∧ envTo env r
theorem envTo_look {env : List (Nat × Nat × SV)} : ∀ {l : List (Nat × Nat × SV)}, envTo env l → ∀ t c x, look l t = some (c, x) → c = 0 ∧ ∃ y, look env t = some (0, y) ∧ den y = den x
  | (u, c', x') :: r, h, t, c, x, hl => by
    simp only [look] at hl
    split at hl
    · rename_i e
      cases hl
      have : u = t := by simpa using e
      subst this
      refine ⟨h.1.1, ?_⟩
      have h2 := h.1.2
      split at h2
      · rename_i y hy; exact ⟨y, hy, h2⟩
      · exact h2.elim
    · exact envTo_look h.2 t c x hl
theorem RepX.re {F : Fr} {st st' : St} {a : Act} {w : World} (h : RepX F st a w) (he : envTo st.env st'.env) (hh : HpAll F w st'.hp) (hn : st'.nt = st.nt) (hk : st'.ks = []) : RepX F st' a w := by
  obtain ⟨h1, h2, h3, h4⟩ := h.env
  refine Rep.of_mem ⟨h1.trans hn.symm, h2, fun t c x hx => ?_, fun r hr => ?_⟩ (hh.memRep h.kp)
  · obtain ⟨e1, y, e2, e3⟩ := envTo_look he t c x hx
    subst e1
    obtain ⟨_, b2⟩ := h3 t 0 y e2
    refine ⟨Nat.zero_le _, ?_⟩
    simp only [cnd, if_true] at b2 ⊢
    rw [b2, e3]
  · have : st'.ks = [] := hk
    rw [show ({ st' with s := w.heap.size, k := 0 } : St).ks = st'.ks from rfl, this] at hr
    cases hr
theorem seg {P : Program} {C : Cfg} (htt : TTok P C.tt) (hm : P.follows .mixedOrders = true) {Q : Exit → Act → World → Prop} (hQ : PanicFree Q) {F : Fr} {k : List W} {st : St} {a : Act} {w : World}
    (n : Nat) (orc : List Bool) (gd : List (Nat × Bool)) (hr : RepX F st a w) (ht : okTop k w) (hk : okW C.dt k = true)
    (h : ∀ s, w.heap.size = s → vc C n orc [] k { st with s := s, k := 0, gd := gd } (fun k' st' => ∀ a' w', RepX F st' a' w' → okTop k' w' → post P Q k' .normal a' w')) : post P Q k .normal a w := by
  have hr' : Rep F { st with s := w.heap.size, k := 0, gd := gd } a w := ⟨⟨hr.env.1, hr.env.2.1, hr.env.2.2.1, hr.env.2.2.2⟩, hr.hp, hr.mu, hr.nd, rfl, hr.kp⟩
  exact vc_sound htt hm hQ (F := F) n orc [] k _ (fun k' st' => ∀ a' w', RepX F st' a' w' → okTop k' w' → post P Q k' .normal a' w') a w hr' ht hk (h _ rfl) (fun k' st' a' w' hK hr'' ht' => hK a' w' hr''.x ht')
def env0 : Nat → List SV → List (Nat × Nat × SV)
  | _, [] => []
  | i, x :: l => (i, 0, x) :: env0 (i + 1) l
theorem look_env0 : ∀ (l : List SV) (i t c : Nat) (x : SV), look (env0 i l) t = some (c, x) → c = 0 ∧ i ≤ t ∧ l[t - i]? = some x
  | [], _, _, _, _, h => by cases h
  | y :: l, i, t, c, x, h => by
    simp only [env0, look] at h
    split at h
    · rename_i e
      cases h
      have : i = t := by simpa using e
      subst this
      exact ⟨rfl, Nat.le_refl _, by simp⟩
    · rename_i e
      have hne : ¬ i = t := by simpa using e
      obtain ⟨h1, h2, h3⟩ := look_env0 l (i + 1) t c x h
      refine ⟨h1, by omega, ?_⟩
      have : t - i = (t - (i + 1)) + 1 := by omega
      rw [this, List.getElem?_cons_succ]
      exact h3
theorem enter {P : Program} {f : FuncId} {fn : Func} {c : Code} {R : Ending → World → Prop} {F : Fr} {w : World} (hf : P.funcs[f]? = some fn) (hb : fn.body = some c) (svs : List SV) (H : Hp) (hn : svs.length ≤ fn.ntmps)
    (hH : HpAll F w H) (hk : Keeps F w) (h : ∀ a, RepX F ⟨env0 0 svs, H, 0, 0, fn.ntmps, [], [], []⟩ a w → post P (bodyPost P fn R) [.code c] .normal a w) : Calls P f (denL svs).toArray w R := by
  refine calls_of_wp hf hb (h _ (Rep.of_mem ⟨by simp [denL_length]; omega, rfl, fun t c x hx => ?_, fun r hr => by cases hr⟩ (hH.memRep hk)))
  obtain ⟨e1, _, e3⟩ := look_env0 svs 0 t c x hx
  subst e1
  simp only [Nat.sub_zero] at e3
  refine ⟨Nat.le_refl _, ?_⟩
  have hlt : t < svs.length := (List.getElem?_eq_some_iff.1 e3).1
  rw [Array.getElem?_append_left (by simp [denL_length]; exact hlt)]
  simp [denL_get?, e3, cnd]
def Rnd (J : Nat → Act → World → Prop) (n : Nat) (a : Act) (w : World) : Prop := ∃ m, m < n ∧ J m a w
theorem post_loop {P : Program} {Q : Exit → Act → World → Prop} {c : Code} {k : List W} {a : Act} {w : World} (J : Nat → Act → World → Prop) (n₀ : Nat) (h₀ : J n₀ a w)
    (round : ∀ n a w, J n a w → post P Q (.code c :: .inv (Rnd J n) :: k) .normal a w) : post P Q (.code (.loop c) :: k) .normal a w := by
  show (Code.loop c).wp P (post P Q k) a w
  refine wp_loop_ghost J n₀ h₀ fun n a' w' hJ => ?_
  have := round n a' w' hJ
  refine Code.wp_mono (fun e a w q => ?_) this
  cases e <;> exact q
def Callable (P : Program) (f : FuncId) : Prop := ∃ fn, P.funcs[f]? = some fn ∧ (fn.name == "runtime.NumGoroutine") = false ∧ fn.body.isNone = false
theorem run_callFunc {P : Program} {f : FuncId} (h : Callable P f) (args : Array Value) (w : World) : (callFunc f args).run P w = .ok (.enter f args) w := by
  obtain ⟨fn, h1, h2, h3⟩ := h
  simp only [callFunc, Sem.run_bind, run_program, Result.andThen_ok, h1, h2, h3, Bool.false_eq_true, if_false, Sem.run_pure]
def evCall (st : St) (c : Nat) : Op → Option (FuncId × List SV)
  | .call { callee := .value f, args, .. } => match opd st c f, opds st c args.toList with
    | some (.fn (.func g) first cap), some l => some (g, first ++ (l ++ cap))
    | _, _ => none
  | _ => none
theorem evCall_sound {P : Program} {st : St} {c : Nat} {o : Oper} {g : FuncId} {l : List SV} {a : Act} {w : World} (he : EnvRep st a) (hc : cnd st.cs c = true) (h : evCall st c o.op = some (g, l)) (hg : Callable P g) :
    (execOp a.eval o).run P w = .ok (.enter g (denL l).toArray) w := by
  unfold evCall at h
  split at h
  · rename_i f args ats hop
    split at h
    · rename_i g' first cap l' hf hl
      cases h
      have e : args.map a.eval = (denL l').toArray := by
        apply Array.toList_inj.1
        rw [Array.toList_map]
        exact opds_sound he hc _ _ hl
      simp only [execOp, hop, resolve, e, opd_sound he hc hf, den, Deferred.ofValue, Sem.run_bind, Sem.run_pure, Result.andThen_ok, invoke, run_callFunc hg, denL_append]
      simp
    · cases h
  · cases h
theorem post_call {P : Program} {Q : Exit → Act → World → Prop} {F : Fr} {st : St} {all : Array Oper} {o : Oper} {l : List Oper} {k : List W} {a : Act} {w : World} {R : Ending → World → Prop} (g : FuncId) (xs : List SV)
    (hr : RepX F st a w) (hw : Region.wanted o (yielded all a.tmps) = true) (he : evCall st 0 o.op = some (g, xs)) (hg : Callable P g) (hc : Calls P g (denL xs).toArray w R)
    (hk : ∀ e w', R e w' → ∃ v, e = .returned v ∧ post P Q (.ops all l :: k) .normal (a.put o.dst v) w') : post P Q (.ops all (o :: l) :: k) .normal a w := by
  show wpList P all (post P Q k) (o :: l) a w
  unfold wpList
  rw [if_pos hw]
  refine .inl ?_
  have e1 := evCall_sound (P := P) (w := w) (hr.env.same (st' := st) rfl rfl rfl rfl) (c := 0) rfl he hg
  simp only [Oper.wp, e1, Oper.upon]
  refine hc.mono fun e w' hR => ?_
  obtain ⟨v, rfl, h⟩ := hk e w' hR
  exact h
theorem wanted_none {o : Oper} {y : Nat → Option Bool} (h : o.guard = none) : Region.wanted o y = true := by simp [Region.wanted, h]
theorem post_callD {P : Program} {Q : Exit → Act → World → Prop} {F : Fr} {st : St} {all : Array Oper} {hp0 : Hp} {o : Oper} {i : Nat} {l : List (Nat × Nat)} {k : List W} {a : Act} {w : World} {R : Ending → World → Prop} (g : FuncId) (xs : List SV)
    (hr : RepX F st a w) (hi : all[i]? = some o) (hw : Region.wanted o (yielded all a.tmps) = true) (he : evCall st 0 o.op = some (g, xs)) (hg : Callable P g) (hc : Calls P g (denL xs).toArray w R)
    (hk : ∀ e w', R e w' → ∃ v, e = .returned v ∧ HpRep hp0 w' ∧ post P Q (.opsD all hp0 l :: k) .normal (a.put o.dst v) w') : post P Q (.opsD all hp0 ((i, 1) :: l) :: k) .normal a w := by
  show wpSeqD P all (post P Q k) (HpRep hp0) (HpRep (frz hp0)) ((i, 1) :: l) a w
  simp only [wpSeqD, Nat.reduceBEq, Bool.false_eq_true, if_false, if_true]
  unfold wpOp
  simp only [hi, hw, if_true]
  refine .inl ?_
  have e1 := evCall_sound (P := P) (w := w) (hr.env.same (st' := st) rfl rfl rfl rfl) (c := 0) rfl he hg
  simp only [Oper.wp, e1, Oper.upon]
  refine hc.mono fun e w' hR => ?_
  obtain ⟨v, rfl, h1, h2⟩ := hk e w' hR
  exact ⟨h1, HpRep.frz h1, h2⟩
theorem post_both {P : Program} {Q : Exit → Act → World → Prop} {all : Array Oper} {hp0 : Hp} {m : Nat} {l : List (Nat × Nat)} {k : List W} {a : Act} {w : World}
    (h1 : post P Q (.opsD all hp0 (l.take m) :: k) .normal a w) (h2 : post P Q (.opsD all hp0 (l.drop m) :: k) .normal a w) : post P Q (.opsD all hp0 ((m, fork) :: l) :: k) .normal a w := by
  show wpSeqD P all (post P Q k) (HpRep hp0) (HpRep (frz hp0)) ((m, fork) :: l) a w
  unfold wpSeqD
  simp only [fork, Nat.reduceBEq, Bool.false_eq_true, if_false, if_true]
  exact ⟨h1, h2⟩
theorem Keeps.below {F : Fr} {w w' : World} (h : Keeps F w) (hb : Below w.heap.size w w') : Keeps F w' :=
  ⟨h.hB, hb.os.trans h.os, hb.tape.trans h.tape, hb.output.trans h.output, Nat.le_trans h.size hb.size, fun k hk hm => (hb.block k (Nat.lt_of_lt_of_le hk (Nat.le_trans h.hB h.size))).trans (h.block k hk hm)⟩
theorem HpAll.below {F : Fr} {w w' : World} (hb : Below w.heap.size w w') : ∀ {H : Hp}, HpAll F w H → HpAll F w' H
  | [], _ => trivial
  | (_, _, _) :: _, h => ⟨⟨SO.rep_same h.1.1 (hb.block _ (SO.rep_lt h.1.1)), h.1.2⟩, HpAll.below hb h.2⟩
theorem RepX.ret {F : Fr} {st : St} {a : Act} {w w' : World} (h : RepX F st a w) (hb : Below w.heap.size w w') (d : Nat) (x : SV) {v : Value} (hv : v = den x) (H : Hp) (hH : HpAll F w' H) (hd : d < st.nt) (hks : st.ks.all (fun r => r.tj != d) = true) :
    RepX F { st with env := (d, 0, x) :: st.env, hp := H } (a.put (some d) v) w' := by
  subst hv
  have hp0 : putS { st with s := w.heap.size, k := 0 } (some d) 0 x = some { st with s := w.heap.size, k := 0, env := (d, 0, x) :: st.env } := by
    simp only [putS, hd, hks, decide_true, Bool.and_self, if_true]
  have hput := putS_sound h.env (Nat.zero_le _) hp0
  simp only [cnd, if_true] at hput
  exact Rep.of_mem (hput.same rfl rfl rfl rfl) (hH.memRep (h.keeps.below hb))
theorem bodyPost_of {P : Program} {fn : Func} {R : Ending → World → Prop} {a : Act} {w : World} {v : Value} (hd : a.defers = []) (hr : (results fn a.tmps).run P w = .ok v w) (hR : R (.returned v) w) :
    bodyPost P fn R .ret a w ∧ bodyPost P fn R .normal a w := ⟨⟨hd, v, hr, hR⟩, ⟨hd, v, hr, hR⟩⟩
def lookD (env : List (Nat × Nat × SV)) (t : Nat) : Option SV :=
  match look env t with
  | some (0, x) => some x
  | _ => none
theorem RepX.slot {F : Fr} {st : St} {a : Act} {w : World} (h : RepX F st a w) {t : Nat} {x : SV} (hl : lookD st.env t = some x) : a.tmps.getD t undef = den x := by
  unfold lookD at hl
  split at hl
  · rename_i y hy
    cases hl
    have := (h.env.2.2.1 t 0 x hy).2
    simp only [cnd, if_true] at this
    simp [Array.getD_eq_getD_getElem?, this]
  · cases hl
theorem end0 {P : Program} {fn : Func} {R : Ending → World → Prop} {F : Fr} {st : St} {a : Act} {w : World} (hr : RepX F st a w) (hres : fn.results = #[]) (hR : R (.returned (.tuple #[])) w) :
    bodyPost P fn R .ret a w ∧ bodyPost P fn R .normal a w := bodyPost_of hr.env.2.1 (results_none hres _ _ _) hR
theorem end1 {P : Program} {fn : Func} {R : Ending → World → Prop} {F : Fr} {st : St} {a : Act} {w : World} (hr : RepX F st a w) {t : Nat} (hres : fn.results = #[.tmp t]) {x : SV} (hl : lookD st.env t = some x) (hR : R (.returned (den x)) w) :
    bodyPost P fn R .ret a w ∧ bodyPost P fn R .normal a w := bodyPost_of hr.env.2.1 (results_tmp hres _ _ _) (by rw [hr.slot hl]; exact hR)
theorem end2 {P : Program} {fn : Func} {R : Ending → World → Prop} {F : Fr} {st : St} {a : Act} {w : World} (hr : RepX F st a w) {t u : Nat} (hres : fn.results = #[.tmp t, .tmp u]) {x y : SV} (hl : lookD st.env t = some x) (hl2 : lookD st.env u = some y)
    (hR : R (.returned (.tuple #[den x, den y])) w) : bodyPost P fn R .ret a w ∧ bodyPost P fn R .normal a w := bodyPost_of hr.env.2.1 (results_tmp2 hres _ _ _) (by rw [hr.slot hl, hr.slot hl2]; exact hR)
theorem end3 {P : Program} {fn : Func} {R : Ending → World → Prop} {F : Fr} {st : St} {a : Act} {w : World} (hr : RepX F st a w) {t u s : Nat} (hres : fn.results = #[.tmp t, .tmp u, .tmp s]) {x y z : SV} (hl : lookD st.env t = some x) (hl2 : lookD st.env u = some y) (hl3 : lookD st.env s = some z)
    (hR : R (.returned (.tuple #[den x, den y, den z])) w) : bodyPost P fn R .ret a w ∧ bodyPost P fn R .normal a w := bodyPost_of hr.env.2.1 (by simp [results, hres]; rfl) (by
      have e1 := hr.slot hl
      have e2 := hr.slot hl2
      have e3 := hr.slot hl3
      simp only [Array.getD_eq_getD_getElem?] at e1 e2 e3
      simp only [e1, e2, e3]; exact hR)
theorem post_rnd {P : Program} {Q : Exit → Act → World → Prop} {J : Nat → Act → World → Prop} {n : Nat} {k : List W} {a : Act} {w : World} (m : Nat) (hm : m < n) (h : J m a w) : post P Q (.inv (Rnd J n) :: k) .normal a w := ⟨m, hm, h⟩
theorem post_retn {P : Program} {Q : Exit → Act → World → Prop} {k : List W} {a : Act} {w : World} (h : Q .ret a w) : post P Q (.retn :: k) .normal a w := h
theorem post_nil {P : Program} {Q : Exit → Act → World → Prop} {a : Act} {w : World} (h : Q .normal a w) : post P Q [] .normal a w := h
def frame0 (w : World) : Fr := ⟨w, w.heap.size, []⟩
theorem keeps0 (w : World) : Keeps (frame0 w) w := ⟨Nat.le_refl _, rfl, rfl, rfl, Nat.le_refl _, fun _ _ _ => rfl⟩
theorem Keeps.toBelow {w w' : World} (h : Keeps (frame0 w) w') : Below w.heap.size w w' := ⟨h.os, h.tape, h.output, h.size, fun k hk => h.block k hk (by simp [frame0])⟩
end Go.SX
namespace Go.SX
open Go Go.RowKit
def mutB (H : Hp) : List Nat := (H.filter (·.2.1)).map (·.1)
theorem mem_mutB {H : Hp} {i b : Nat} {o : SO} (h : H[i]? = some (b, true, o)) : b ∈ mutB H :=
  List.mem_map.2 ⟨_, List.mem_filter.2 ⟨List.mem_of_getElem? h, rfl⟩, rfl⟩
theorem of_mem_mutB {H : Hp} {b : Nat} (h : b ∈ mutB H) : ∃ (i : Nat) (o : SO), H[i]? = some (b, true, o) := by
  obtain ⟨⟨b', m, o⟩, he, rfl⟩ := List.mem_map.1 h
  obtain ⟨h1, h2⟩ := List.mem_filter.1 he
  simp only at h2
  subst h2
  obtain ⟨i, hi⟩ := List.getElem?_of_mem h1
  exact ⟨i, o, hi⟩
def frameAt (w : World) (H : Hp) : Fr := ⟨w, w.heap.size, mutB H⟩
theorem RepX.rebase {F : Fr} {st : St} {a : Act} {w : World} (h : RepX F st a w) : RepX (frameAt w st.hp) st a w :=
  ⟨h.env, h.hp, fun _ _ _ hi => .inr (mem_mutB hi), h.nd, rfl, ⟨Nat.le_refl _, rfl, rfl, rfl, Nat.le_refl _, fun _ _ _ => rfl⟩⟩
theorem Keeps.compose {F : Fr} {H : Hp} {w w' : World} (h : Keeps F w) (hmu : ∀ (i b : Nat) (o : SO), H[i]? = some (b, true, o) → F.B ≤ b ∨ b ∈ F.M) (h' : Keeps (frameAt w H) w') : Keeps F w' :=
  ⟨h.hB, h'.os.trans h.os, h'.tape.trans h.tape, h'.output.trans h.output, Nat.le_trans h.size h'.size, fun k hk hm => by
    have h1 : k ∉ mutB H := fun hkm => by
      obtain ⟨i, o, hi⟩ := of_mem_mutB hkm
      rcases hmu i k o hi with h2 | h2
      · omega
      · exact hm h2
    rw [h'.block k (Nat.lt_of_lt_of_le hk (Nat.le_trans h.hB h.size)) h1]
    exact h.block k hk hm⟩
theorem RepX.unbase {F : Fr} {st st' : St} {a a' : Act} {w w' : World} (h : RepX F st a w) (h' : RepX (frameAt w st.hp) st' a' w') : RepX F st' a' w' :=
  ⟨h'.env, h'.hp, fun i b o hi => by
    rcases h'.mu i b o hi with h1 | h1
    · have := h.keeps.hB
      have := h.keeps.size
      exact .inl (by simp only [frameAt] at h1; omega)
    · obtain ⟨j, o', hj⟩ := of_mem_mutB h1
      exact h.mu j b o' hj, h'.nd, rfl, h.keeps.compose h.mu h'.keeps⟩
theorem RepX.old {st' : St} {H : Hp} {a' : Act} {w w' : World} (h' : RepX (frameAt w H) st' a' w') {b : Nat} (hb : b < w.heap.size) (hm : b ∉ mutB H) : w'.heap[b]? = w.heap[b]? :=
  h'.keeps.block b hb hm
theorem growBy_le (newLen : Nat) : ∀ (r c : Nat), c < newLen → Builtin.growBy newLen r c ≤ 2 * newLen + 192
  | 0, c, h => by simp [Builtin.growBy]; omega
  | r + 1, c, h => by
    simp only [Builtin.growBy]
    split
    · omega
    · rcases Nat.lt_or_ge (c + (c + 768) / 4) newLen with h1 | h1
      · exact growBy_le newLen r _ h1
      · cases r with
        | zero => simp only [Builtin.growBy]; omega
        | succ r => simp only [Builtin.growBy, if_pos h1]; omega
theorem nextslicecap_le {need cap : Nat} (h : cap < need) : Builtin.nextslicecap need cap ≤ 2 * need + 192 := by
  unfold Builtin.nextslicecap
  split
  · omega
  · split
    · omega
    · exact growBy_le need 4 cap h
theorem zeroCells_get {z : Array Value} {n j : Nat} (h : j < n * z.size) : (Builtin.zeroCells z n)[j]? = z[j % z.size]? := by
  have hz : 0 < z.size := by
    rcases Nat.eq_zero_or_pos z.size with h0 | h0
    · rw [h0] at h; simp at h
    · exact h0
  have h2 : j % z.size < z.size := Nat.mod_lt _ hz
  simp only [Builtin.zeroCells, Array.getElem?_map]
  rw [Array.getElem?_range]
  simp only [h, if_true, Option.map_some]
  rw [getElem!_pos z _ h2, Array.getElem?_eq_getElem h2]
def rowsOf (row : Nat → List SV) (base n : Nat) : List Value := (List.range n).flatMap fun j => denL (row (base + j))
theorem rowsOf_length {row : Nat → List SV} {sz : Nat} : ∀ {n base : Nat}, (∀ j, j < n → (row (base + j)).length = sz) → (rowsOf row base n).length = n * sz
  | 0, _, _ => by simp [rowsOf]
  | n + 1, base, h => by
    have ih := rowsOf_length (row := row) (sz := sz) (n := n) (base := base) (fun j hj => h j (by omega))
    have h2 := h n (by omega)
    simp only [rowsOf] at ih ⊢
    rw [List.range_succ, List.flatMap_append, List.length_append, ih]
    simp [denL_length, h2, Nat.add_mul]
theorem rowsOf_get {row : Nat → List SV} {sz : Nat} : ∀ {n base j s : Nat}, (∀ j, j < n → (row (base + j)).length = sz) → j < n → s < sz → (rowsOf row base n)[j * sz + s]? = (denL (row (base + j)))[s]?
  | 0, _, _, _, _, hj, _ => by omega
  | n + 1, base, j, s, h, hj, hs => by
    have hl := rowsOf_length (row := row) (sz := sz) (n := n) (base := base) (fun j hj => h j (by omega))
    simp only [rowsOf] at hl ⊢
    rw [List.range_succ, List.flatMap_append]
    by_cases hjn : j < n
    · rw [List.getElem?_append_left (by rw [hl]; have := idx_bound (sz := sz) hjn; omega)]
      exact rowsOf_get (n := n) (fun j hj => h j (by omega)) hjn hs
    · have : j = n := by omega
      subst this
      rw [List.getElem?_append_right (by rw [hl]; omega), hl]
      simp
theorem run_loadRows {P : Program} {w : World} {b : Nat} {c : Array Value} {t : TypeId} {fz : Nat × Nat} {o0 N : Nat} {row : Nat → List SV} {sz : Nat} (hb : w.heap[b]? = some (.cells c t fz)) (hr : ArrRep c o0 N row sz) {base n : Nat} (hn : base + n ≤ N) :
    (loadCells ⟨b, o0 + base * sz, none⟩ (n * sz)).run P w = .ok (rowsOf row base n).toArray w := by
  have hlen : ∀ j, j < n → (row (base + j)).length = sz := fun j hj => (hr.2 (base + j) (by omega)).1
  have hl := rowsOf_length hlen
  rw [← hl]
  refine run_loadCells _ fun q hq => ?_
  rw [hl] at hq
  have hs : 0 < sz := by
    rcases Nat.eq_zero_or_pos sz with h0 | h0
    · rw [h0] at hq; simp at hq
    · exact h0
  have h1 : q / sz < n := Nat.div_lt_of_lt_mul (by rw [Nat.mul_comm]; exact hq)
  have h2 := Nat.mod_lt q hs
  have h3 : q = q / sz * sz + q % sz := by have := Nat.div_add_mod q sz; rw [Nat.mul_comm] at this; omega
  rw [cell_of hb, h3, rowsOf_get hlen h1 h2, ← (hr.2 (base + q / sz) (by omega)).2 _ h2]
  congr 1
  rw [Nat.add_mul]; omega
def cellsV' (z : Array Value) : List SV := z.toList.map .v
def appRow (row row2 : Nat → List SV) (len base2 n : Nat) (z : List SV) : Nat → List SV := fun q => if q < len then row q else if q < len + n then row2 (base2 + (q - len)) else z
theorem grown_rep {row row2 : Nat → List SV} {sz len base2 n cap : Nat} {z : Array Value} (h1 : ∀ j, j < len → (row (0 + j)).length = sz) (h2 : ∀ j, j < n → (row2 (base2 + j)).length = sz) (hz : z.size = sz) (hc : len + n ≤ cap) :
    ArrRep ((rowsOf row 0 len).toArray ++ (rowsOf row2 base2 n).toArray ++ Builtin.zeroCells z (cap - (len + n))) 0 cap (appRow row row2 len base2 n (cellsV' z)) sz := by
  have l1 := rowsOf_length h1
  have l2 := rowsOf_length h2
  have l3 : (Builtin.zeroCells z (cap - (len + n))).size = (cap - (len + n)) * sz := by simp [Builtin.zeroCells, hz]
  have e1 : len * sz + n * sz + (cap - (len + n)) * sz = cap * sz := by rw [← Nat.add_mul, ← Nat.add_mul]; congr 1; omega
  refine ⟨by simp [l1, l2, l3]; omega, fun j hj => ?_⟩
  have hb := idx_bound (sz := sz) hj
  simp only [Nat.zero_add]
  unfold appRow
  by_cases hj1 : j < len
  · rw [if_pos hj1]
    refine ⟨by simpa using h1 j hj1, fun s hs => ?_⟩
    have hb1 := idx_bound (sz := sz) hj1
    rw [Array.getElem?_append_left (by simp [l1, l2]; omega), Array.getElem?_append_left (by simp [l1]; omega)]
    have := rowsOf_get h1 hj1 hs
    simpa using this
  · rw [if_neg hj1]
    by_cases hj2 : j < len + n
    · rw [if_pos hj2]
      have h3 : j - len < n := by omega
      refine ⟨h2 _ h3, fun s hs => ?_⟩
      have hb1 := idx_bound (sz := sz) h3
      have e2 : j * sz = len * sz + (j - len) * sz := by rw [← Nat.add_mul]; congr 1; omega
      rw [Array.getElem?_append_left (by simp [l1, l2]; omega), Array.getElem?_append_right (by simp [l1]; omega)]
      have := rowsOf_get h2 h3 hs
      rw [← this]
      simp only [List.getElem?_toArray, List.size_toArray, l1]
      congr 1; omega
    · rw [if_neg hj2]
      refine ⟨by simp [cellsV', hz], fun s hs => ?_⟩
      have e2 : j * sz = (len + n) * sz + (j - (len + n)) * sz := by rw [← Nat.add_mul]; congr 1; omega
      have e3 : (len + n) * sz = len * sz + n * sz := Nat.add_mul _ _ _
      have h3 : j - (len + n) < cap - (len + n) := by omega
      have hb1 := idx_bound (sz := sz) h3
      rw [Array.getElem?_append_right (by simp [l1, l2]; omega)]
      have e4 : j * sz + s - ((rowsOf row 0 len).toArray ++ (rowsOf row2 base2 n).toArray).size = (j - (len + n)) * sz + s := by simp [l1, l2]; omega
      rw [e4, zeroCells_get (by rw [hz]; omega), hz]
      have e5 : ((j - (len + n)) * sz + s) % sz = s := by rw [Nat.mul_comm, Nat.mul_add_mod]; exact Nat.mod_eq_of_lt hs
      rw [e5]
      simp [cellsV', denL_map_v]
structure AppArgs (P : Program) (w : World) (e : TypeId) (te : TI) (src : Value) (row2 : Nat → List SV) (base2 n : Nat) : Prop where
  te_ok : te.ok P e
  zsz : te.zero.cells.size = te.sz
  by0 : te.by_ ≠ 0
  srcs : ∃ b2 c2 cap2 t2 fz2 o2 N2, src = .slice (some ⟨b2, o2 + base2 * te.sz, none⟩) n cap2 ∧ w.heap[b2]? = some (.cells c2 t2 fz2) ∧ ArrRep c2 o2 N2 row2 te.sz ∧ base2 + n ≤ N2
theorem AppArgs.len2 {P : Program} {w : World} {e : TypeId} {te : TI} {src : Value} {row2 : Nat → List SV} {base2 n : Nat} (h : AppArgs P w e te src row2 base2 n) : ∀ j, j < n → (row2 (base2 + j)).length = te.sz := by
  obtain ⟨b2, c2, cap2, t2, fz2, o2, N2, _, _, hr, hn⟩ := h.srcs
  exact fun j hj => (hr.2 _ (by omega)).1
theorem run_first {P : Program} {w : World} {e : TypeId} {te : TI} {src : Value} {row2 : Nat → List SV} {base2 n : Nat} (h : AppArgs P w e te src row2 base2 n) :
    (Builtin.firstCells te.sz n src).run P w = .ok (rowsOf row2 base2 n).toArray w := by
  obtain ⟨b2, c2, cap2, t2, fz2, o2, N2, rfl, hb, hr, hn⟩ := h.srcs
  simp only [Builtin.firstCells]
  exact run_loadRows hb hr hn
theorem run_lenOf {P : Program} {w : World} {e : TypeId} {te : TI} {src : Value} {row2 : Nat → List SV} {base2 n : Nat} (h : AppArgs P w e te src row2 base2 n) :
    (Builtin.lenOf src).run P w = .ok n w := by
  obtain ⟨b2, c2, cap2, t2, fz2, o2, N2, rfl, hb, hr, hn⟩ := h.srcs
  simp [Builtin.lenOf]
theorem mem_rowsOf {row : Nat → List SV} {base n : Nat} {v : Value} (h : v ∈ rowsOf row base n) : ∃ j, j < n ∧ ∃ x ∈ row (base + j), v = den x := by
  simp only [rowsOf, List.mem_flatMap, List.mem_range] at h
  obtain ⟨j, hj, hv⟩ := h
  rw [denL_map] at hv
  obtain ⟨x, hx, rfl⟩ := List.mem_map.1 hv
  exact ⟨j, hj, x, hx, rfl⟩
theorem run_append_room {P : Program} {w : World} {t t' e e' ty : TypeId} {te : TI} {src : Value} {row2 : Nat → List SV} {base2 n b len cap : Nat} {c : Array Value} {u : TypeId} {N : Nat} {row : Nat → List SV}
    (ht : P.underlying t = some (.slice e)) (ht' : P.underlying t' = some (.slice e')) (h : AppArgs P w e te src row2 base2 n) (hb : w.heap[b]? = some (.cells c u (0, 0))) (hr : ArrRep c 0 N row te.sz) (hcap : cap ≤ N) (hroom : len + n ≤ cap)
    (hna : ∀ j, j < n → ∀ x ∈ row2 (base2 + j), NotAgg (den x)) :
    (Builtin.append_ #[t, t'] ty #[.slice (some ⟨b, 0, none⟩) len cap, src]).run P w = .ok (.slice (some ⟨b, 0, none⟩) (len + n) cap) (putBlk w b (.cells (putAll c (len * te.sz) (rowsOf row2 base2 n)) u (0, 0))) := by
  have hst := run_storeCells (P := P) (rowsOf row2 base2 n) w c (len * te.sz) 0 hb (by
    rw [rowsOf_length h.len2, Nat.add_zero, ← Nat.add_mul]
    have h1 := hr.1
    have h2 : (len + n) * te.sz ≤ N * te.sz := Nat.mul_le_mul_right _ (by omega)
    omega) (fun v hv => by
    obtain ⟨j, hj, x, hx, rfl⟩ := mem_rowsOf hv
    exact hna j hj x hx)
  have hi : (TypeDesc.slice e' matches .int _) = false := rfl
  simp only [Builtin.append_, Sem.run_bind, run_underlying ht, Result.andThen_ok, run_sizeOf' h.te_ok, List.getElem?_toArray, List.getElem?_cons_zero, List.getElem?_cons_succ, run_underlying ht', Sem.run_pure, Bool.false_eq_true, if_false,
    run_lenOf h, if_pos hroom, Bool.not_false, if_true, run_first h, add_none, Nat.zero_add, hst, Nat.add_zero]
theorem run_append_grow {P : Program} {w : World} {t t' e e' ty : TypeId} {te : TI} {src dst : Value} {row2 : Nat → List SV} {base2 n len cap : Nat} {row : Nat → List SV} {ad : Option Addr}
    (ht : P.underlying t = some (.slice e)) (ht' : P.underlying t' = some (.slice e')) (h : AppArgs P w e te src row2 base2 n) (hd : dst = .slice ad len cap)
    (hold : (Builtin.firstCells te.sz len dst).run P { w with drawn := w.drawn + 1 } = .ok (rowsOf row 0 len).toArray { w with drawn := w.drawn + 1 }) (hroom : cap < len + n) (hbig : (2 * (len + n) + 192) * te.by_ ≤ 281474976710656) :
    ∃ newCap, len + n ≤ newCap ∧ (Builtin.append_ #[t, t'] ty #[dst, src]).run P w =
      .ok (.slice (some ⟨w.heap.size, 0, none⟩) (len + n) newCap) (({ w with drawn := w.drawn + 1 } : World).alloc (.cells ((rowsOf row 0 len).toArray ++ (rowsOf row2 base2 n).toArray ++ Builtin.zeroCells te.zero.cells (newCap - (len + n))) e)) := by
  obtain ⟨xi, hi1, hi2, hi3, hi4⟩ := h.te_ok.info
  have hinfo : ∀ w, (typeInfo e).run P w = .ok xi w := fun w => by simp [typeInfo, hi1]
  have hnr : ¬ len + n ≤ cap := by omega
  have hnb : ¬ (((len + n : Nat) : Int) > IntKind.i64.max ∧ (false = true ∨ xi.bytes = 0)) := by
    rintro ⟨_, h1 | h1⟩
    · cases h1
    · exact h.by0 (by rw [← hi3]; exact h1)
  have hcapb : ¬ Builtin.nextslicecap (len + n) cap * xi.bytes > 2 ^ 48 := by
    have h1 := nextslicecap_le hroom
    have h2 : Builtin.nextslicecap (len + n) cap * xi.bytes ≤ (2 * (len + n) + 192) * te.by_ := by rw [hi3]; exact Nat.mul_le_mul_right _ h1
    omega
  refine ⟨(Question.appendCap (len + n) cap e).cut (w.tape w.drawn (.appendCap (len + n) cap e)), Nat.le_add_right _ _, ?_⟩
  have hch : (choose (.appendCap (len + n) cap e)).run P w = .ok ((Question.appendCap (len + n) cap e).cut (w.tape w.drawn (.appendCap (len + n) cap e))) { w with drawn := w.drawn + 1 } := by
    simp [choose, Sem.run, Question.forced]
  have hroomR : ∀ q (w : World), (askRoom q).run P w = .ok () w := fun q w => by
    unfold askRoom
    split
    · simp [mark, Sem.run]
    · rfl
  have hfirst : (Builtin.firstCells te.sz n src).run P { w with drawn := w.drawn + 1 } = .ok (rowsOf row2 base2 n).toArray { w with drawn := w.drawn + 1 } :=
    run_first (w := { w with drawn := w.drawn + 1 }) ⟨h.te_ok, h.zsz, h.by0, h.srcs⟩
  subst hd
  simp only [Builtin.append_, Sem.run_bind, run_underlying ht, Result.andThen_ok, run_sizeOf' h.te_ok, List.getElem?_toArray, List.getElem?_cons_zero, List.getElem?_cons_succ, run_underlying ht', Sem.run_pure, Bool.false_eq_true, if_false,
    run_lenOf h, if_neg hnr, Bool.not_false, if_true, hinfo]
  rw [if_neg (by simpa using hnb)]
  simp only [Sem.run_pure, Sem.run_bind, hinfo, Result.andThen_ok, if_neg hcapb, hch, hroomR, hold, hfirst, run_zeroValue' h.te_ok, newRow, newObj, Sem.run]
  rfl
def evApp (st : St) : Op → Option (SV × SV × TypeId × TypeId)
  | .call { callee := .builtin .append, args, argTypes } => match opds st 0 args.toList, argTypes.toList with
    | some [x, y], [t, t'] => some (x, y, t, t')
    | _, _ => none
  | _ => none
theorem evApp_sound {P : Program} {st : St} {o : Oper} {x y : SV} {t t' : TypeId} {a : Act} (he : EnvRep st a) (h : evApp st o.op = some (x, y, t, t')) (w : World) :
    (execOp a.eval o).run P w = ((Builtin.append_ #[t, t'] o.type #[den x, den y]).run P w).andThen fun v w' => .ok (.value v) w' := by
  unfold evApp at h
  split at h
  · rename_i args ats hop
    split at h
    · rename_i x' y' t1 t2 hl hts
      cases h
      have e : args.map a.eval = #[den x, den y] := by
        apply Array.toList_inj.1
        rw [Array.toList_map]
        exact (opds_sound he (c := 0) rfl _ _ hl).trans (by simp [denL])
      have e2 : ats = #[t, t'] := by apply Array.toList_inj.1; exact hts
      simp only [execOp, hop, resolve, e, e2, Sem.run_bind, Sem.run_pure, Result.andThen_ok, invoke, builtin]
    · cases h
  · cases h
theorem ArrRep.of_room {c : Array Value} {N : Nat} {row row2 : Nat → List SV} {sz base2 n len : Nat} (h : ArrRep c 0 N row sz) (hl : len + n ≤ N) (h2 : ∀ j, j < n → (row2 (base2 + j)).length = sz) :
    ArrRep (putAll c (len * sz) (rowsOf row2 base2 n)) 0 N (fun q => if q < len then row q else if q < len + n then row2 (base2 + (q - len)) else row q) sz := by
  obtain ⟨h1, h3⟩ := h
  have l2 := rowsOf_length h2
  have hfit : len * sz + (rowsOf row2 base2 n).length ≤ c.size := by
    rw [l2, ← Nat.add_mul]
    have h2 : (len + n) * sz ≤ N * sz := Nat.mul_le_mul_right _ hl
    omega
  refine ⟨by rw [putAll_size]; exact h1, fun j hj => ?_⟩
  simp only [Nat.zero_add] at h3 ⊢
  obtain ⟨h4, h5⟩ := h3 j hj
  by_cases hj1 : j < len
  · simp only [hj1, if_true]
    refine ⟨h4, fun s hs => ?_⟩
    have := idx_bound (sz := sz) hj1
    rw [putAll_get _ _ _ _ hfit, if_neg (by omega)]
    exact h5 s hs
  · by_cases hj2 : j < len + n
    · simp only [hj1, hj2, if_true, if_false]
      have hj3 : j - len < n := by omega
      refine ⟨h2 _ hj3, fun s hs => ?_⟩
      have hb := idx_bound (sz := sz) hj3
      have e2 : j * sz = len * sz + (j - len) * sz := by rw [← Nat.add_mul]; congr 1; omega
      rw [putAll_get _ _ _ _ hfit, if_pos (by rw [l2]; omega), ← rowsOf_get h2 hj3 hs]
      congr 1; omega
    · simp only [hj1, hj2, if_false]
      refine ⟨h4, fun s hs => ?_⟩
      have e2 : j * sz = (len + n) * sz + (j - (len + n)) * sz := by rw [← Nat.add_mul]; congr 1; omega
      have e3 : (len + n) * sz = len * sz + n * sz := Nat.add_mul _ _ _
      rw [putAll_get _ _ _ _ hfit, if_neg (by rw [l2]; omega)]
      exact h5 s hs
def putHp (H : Hp) (i : Nat) (x : Nat × Bool × SO) : Hp := if i < H.length then H.set i x else H ++ [x]
theorem HpAll.append {F : Fr} {w : World} {x : Nat × Bool × SO} : ∀ {H : Hp}, HpAll F w H → x.2.2.rep w x.1 → (x.2.1 = true → F.B ≤ x.1 ∨ x.1 ∈ F.M) → (∀ e ∈ H, e.1 ≠ x.1) → HpAll F w (H ++ [x])
  | [], _, h1, h2, _ => ⟨⟨h1, h2, fun e he => by cases he⟩, trivial⟩
  | (b, m, o) :: r, h, h1, h2, h3 => ⟨⟨h.1.1, h.1.2.1, fun e he => by
      rcases List.mem_append.1 he with he | he
      · exact h.1.2.2 e he
      · simp only [List.mem_singleton] at he
        subst he
        exact h3 _ (List.mem_cons_self ..)⟩, HpAll.append h.2 h1 h2 (fun e he => h3 e (List.mem_cons_of_mem _ he))⟩
theorem HpAll.of_mem {F : Fr} {w : World} {H : Hp} {s k : Nat} (h : MemRep F H s k w) : HpAll F w H := h.all
theorem MemRep.renew {F : Fr} {H : Hp} {s k : Nat} {w w' : World} (h : MemRep F H s k w) {i : Nat} {ob : Obj} {new : SO} (hw : w'.heap = w.heap.push ob) (hk : Keeps F w') (hnew : new.rep w' w.heap.size) :
    MemRep F (putHp H i (w.heap.size, true, new)) w'.heap.size 0 w' := by
  have hsz : w'.heap.size = w.heap.size + 1 := by rw [hw]; simp
  have hold : ∀ b, b < w.heap.size → w'.heap[b]? = w.heap[b]? := fun b hb => by rw [hw, Array.getElem?_push, if_neg (by omega)]
  have hB : F.B ≤ w.heap.size := Nat.le_trans h.kp.hB h.kp.size
  unfold putHp
  split
  · refine ⟨fun j c m t hj => ?_, fun j c t hj => ?_, fun j j' x y hj hj' hxy => ?_, rfl, hk⟩
    · rcases get_set hj with ⟨_, h1, _⟩ | ⟨_, h1⟩
      · cases h1; exact hnew
      · exact SO.rep_same (h.hp j c m t h1) (hold c (SO.rep_lt (h.hp j c m t h1)))
    · rcases get_set hj with ⟨_, h1, _⟩ | ⟨_, h1⟩
      · cases h1; exact .inl hB
      · exact h.mu j c t h1
    · rcases get_set hj with ⟨e1, h1, _⟩ | ⟨n1, h1⟩ <;> rcases get_set hj' with ⟨e2, h2, _⟩ | ⟨n2, h2⟩
      · omega
      · subst h1
        have := SO.rep_lt (h.hp j' y.1 y.2.1 y.2.2 h2)
        rw [← hxy] at this
        exact absurd this (by simp)
      · subst h2
        have := SO.rep_lt (h.hp j x.1 x.2.1 x.2.2 h1)
        rw [hxy] at this
        exact absurd this (by simp)
      · exact h.nd j j' x y h1 h2 hxy
  · refine ⟨fun j c m t hj => ?_, fun j c t hj => ?_, fun j j' x y hj hj' hxy => ?_, rfl, hk⟩
    · rcases get_append_one hj with h1 | ⟨_, h1⟩
      · exact SO.rep_same (h.hp j c m t h1) (hold c (SO.rep_lt (h.hp j c m t h1)))
      · cases h1; exact hnew
    · rcases get_append_one hj with h1 | ⟨_, h1⟩
      · exact h.mu j c t h1
      · cases h1; exact .inl hB
    · rcases get_append_one hj with h1 | ⟨e1, h1⟩ <;> rcases get_append_one hj' with h2 | ⟨e2, h2⟩
      · exact h.nd j j' x y h1 h2 hxy
      · subst h2
        have := SO.rep_lt (h.hp j x.1 x.2.1 x.2.2 h1)
        rw [hxy] at this
        exact absurd this (by simp)
      · subst h1
        have := SO.rep_lt (h.hp j' y.1 y.2.1 y.2.2 h2)
        rw [← hxy] at this
        exact absurd this (by simp)
      · omega
theorem append_mem {P : Program} {tt : List (Nat × TI)} (htt : TTok P tt) {F : Fr} {st : St} {w : World} (hm : MemRep F st.hp st.s st.k w) {x y : SV} {t t' e e' ty : TypeId} {ti ti' te : TI} (ht : lookT tt t = some ti) (hd1 : ti.d = .slice e) (ht' : lookT tt t' = some ti') (hd2 : ti'.d = .slice e')
    (hte : lookT tt e = some te) (hz : te.zero.cells.size = te.sz) (hby : te.by_ ≠ 0) {j b2 o2 base2 n cap2 N2 : Nat} {m2 : Bool} {row2 : Nat → List SV} {t2 : TypeId} {fz2 : Nat × Nat} (hy : y = .sl j b2 o2 base2 n cap2 te.sz) (hj : st.hp[j]? = some (b2, m2, .arr o2 N2 row2 te.sz t2 fz2)) (hn2 : base2 + n ≤ N2)
    {i b len cap N : Nat} {row : Nat → List SV} {u : TypeId} (hx : (x = .v (.slice none 0 0) ∧ len = 0 ∧ cap = 0 ∧ i = st.hp.length) ∨ (x = .sl i b 0 0 len cap te.sz ∧ st.hp[i]? = some (b, true, .arr 0 N row te.sz u (0, 0)) ∧ cap ≤ N ∧ len ≤ cap))
    (hpos : 0 < n) (hbig : (2 * (len + n) + 192) * te.by_ ≤ 281474976710656) (hna : ∀ j, j < n → ∀ x ∈ row2 (base2 + j), NotAgg (den x)) :
    ∃ w' b' cap' N' row' u', (Builtin.append_ #[t, t'] ty #[den x, den y]).run P w = .ok (.slice (some ⟨b', 0 + 0 * te.sz, none⟩) (len + n) cap') w' ∧ len + n ≤ cap' ∧ cap' ≤ N' ∧ (∀ q, q < len → row' q = row q) ∧ (∀ q, q < n → row' (len + q) = row2 (base2 + q)) ∧
      ((x = .sl i b 0 0 len cap te.sz ∧ b' = b) ∨ b' = w.heap.size) ∧ MemRep F (putHp st.hp i (b', true, .arr 0 N' row' te.sz u' (0, 0))) w'.heap.size 0 w' := by
  have u1 := (htt _ _ ht).slice hd1
  have u2 := (htt _ _ ht').slice hd2
  obtain ⟨c2, hb2, hr2⟩ := hm.hp j b2 m2 _ hj
  have hA : AppArgs P w e te (den y) row2 base2 n := ⟨htt _ _ hte, hz, hby, b2, c2, cap2, t2, fz2, o2, N2, by rw [hy]; rfl, hb2, hr2, hn2⟩
  have hgrow : ∀ (row : Nat → List SV) (ad : Option Addr), den x = .slice ad len cap → (∀ j, j < len → (row (0 + j)).length = te.sz) →
      (Builtin.firstCells te.sz len (den x)).run P { w with drawn := w.drawn + 1 } = .ok (rowsOf row 0 len).toArray { w with drawn := w.drawn + 1 } → cap < len + n →
      ∃ w' b' cap' N' row' u', (Builtin.append_ #[t, t'] ty #[den x, den y]).run P w = .ok (.slice (some ⟨b', 0 + 0 * te.sz, none⟩) (len + n) cap') w' ∧ len + n ≤ cap' ∧ cap' ≤ N' ∧ (∀ q, q < len → row' q = row q) ∧ (∀ q, q < n → row' (len + q) = row2 (base2 + q)) ∧
      ((x = .sl i b 0 0 len cap te.sz ∧ b' = b) ∨ b' = w.heap.size) ∧ MemRep F (putHp st.hp i (b', true, .arr 0 N' row' te.sz u' (0, 0))) w'.heap.size 0 w' := by
    intro row ad hdx hrl hold hroom
    obtain ⟨newCap, h1, h2⟩ := run_append_grow (P := P) (w := w) (ty := ty) (row := row) u1 u2 hA hdx hold hroom hbig
    have hrep := grown_rep (row := row) (row2 := row2) (sz := te.sz) (len := len) (base2 := base2) (n := n) (cap := newCap) (z := te.zero.cells) hrl hA.len2 hz h1
    refine ⟨_, w.heap.size, newCap, newCap, appRow row row2 len base2 n (cellsV' te.zero.cells), e, by rw [Nat.zero_mul, Nat.zero_add]; exact h2, h1, Nat.le_refl _, fun q hq => by simp [appRow, hq], fun q hq => ?_, .inr rfl, hm.renew rfl ?_ ⟨_, ?_, hrep⟩⟩
    · unfold appRow
      rw [if_neg (by omega), if_pos (by omega)]
      congr 2; omega
    · have hk : Keeps F { w with drawn := w.drawn + 1 } := ⟨hm.kp.hB, hm.kp.os, hm.kp.tape, hm.kp.output, hm.kp.size, hm.kp.block⟩
      exact hk.alloc _
    · exact heap_alloc_new (w := { w with drawn := w.drawn + 1 })
  rcases hx with ⟨rfl, rfl, rfl, _⟩ | ⟨rfl, hi, hcap, hlen⟩
  · obtain ⟨w', b', cap', N', row', u', r⟩ := hgrow (fun _ => List.replicate te.sz (.v undef)) none rfl (fun j hj => by omega) (by simp [Builtin.firstCells, den, rowsOf]) (by omega)
    exact ⟨w', b', cap', N', row', u', r.1, r.2.1, r.2.2.1, fun q hq => by omega, r.2.2.2.2⟩
  · obtain ⟨c, hb, hr⟩ := hm.hp i b true _ hi
    by_cases hroom : len + n ≤ cap
    · have h1 := run_append_room (P := P) (w := w) (ty := ty) (row2 := row2) u1 u2 hA hb hr hcap hroom hna
      have hrep := hr.of_room (row2 := row2) (base2 := base2) (n := n) (len := len) (by omega) hA.len2
      have hlt : i < st.hp.length := (List.getElem?_eq_some_iff.1 hi).1
      refine ⟨_, b, cap, N, (fun q => if q < len then row q else if q < len + n then row2 (base2 + (q - len)) else row q), u, by rw [Nat.zero_mul, Nat.zero_add]; simpa [den] using h1, hroom, hcap, fun q hq => by simp [hq], fun q hq => ?_, .inl ⟨rfl, rfl⟩, ?_⟩
      · simp only
        rw [if_neg (by omega), if_pos (by omega)]
        congr 2; omega
      · have hs := hm.store hi (new := .arr 0 N (fun q => if q < len then row q else if q < len + n then row2 (base2 + (q - len)) else row q) te.sz u (0, 0)) (o := .cells (putAll c (len * te.sz) (rowsOf row2 base2 n)) u (0, 0)) ⟨_, putBlk_same (lt_of_heap hb), hrep⟩
        simp only [putHp, hlt, if_true]
        exact ⟨hs.hp, hs.mu, hs.nd, rfl, hs.kp⟩
    · refine hgrow row (some ⟨b, 0 + 0 * te.sz, none⟩) rfl (fun j hj => (hr.2 _ (by omega)).1) ?_ (by omega)
      simp only [den, Builtin.firstCells]
      exact run_loadRows (w := { w with drawn := w.drawn + 1 }) hb hr (by omega)
theorem post_append {P : Program} {C : Cfg} (htt : TTok P C.tt) {Q : Exit → Act → World → Prop} {F : Fr} {st : St} {all : Array Oper} {o : Oper} {l : List Oper} {k : List W} {a : Act} {w : World} (hr : RepX F st a w) (hw : o.guard = none) {d : Nat} (hdst : o.dst = some d) (hdn : d < st.nt) (hks : st.ks.all (fun r => r.tj != d) = true)
    {x y : SV} {t t' : TypeId} (he : evApp st o.op = some (x, y, t, t')) {e e' : TypeId} {ti ti' te : TI} (ht : lookT C.tt t = some ti) (hd1 : ti.d = .slice e) (ht' : lookT C.tt t' = some ti') (hd2 : ti'.d = .slice e')
    (hte : lookT C.tt e = some te) (hz : te.zero.cells.size = te.sz) (hby : te.by_ ≠ 0) {j b2 o2 base2 n cap2 N2 : Nat} {m2 : Bool} {row2 : Nat → List SV} {t2 : TypeId} {fz2 : Nat × Nat} (hy : y = .sl j b2 o2 base2 n cap2 te.sz) (hj : st.hp[j]? = some (b2, m2, .arr o2 N2 row2 te.sz t2 fz2)) (hn2 : base2 + n ≤ N2)
    {i b len cap N : Nat} {row : Nat → List SV} {u : TypeId} (hx : (x = .v (.slice none 0 0) ∧ len = 0 ∧ cap = 0 ∧ i = st.hp.length) ∨ (x = .sl i b 0 0 len cap te.sz ∧ st.hp[i]? = some (b, true, .arr 0 N row te.sz u (0, 0)) ∧ cap ≤ N ∧ len ≤ cap))
    (hpos : 0 < n) (hbig : (2 * (len + n) + 192) * te.by_ ≤ 281474976710656) (hna : ∀ j, j < n → ∀ x ∈ row2 (base2 + j), NotAgg (den x))
    (hk : ∀ a' w' b' cap' N' row' u', len + n ≤ cap' → cap' ≤ N' → (∀ q, q < len → row' q = row q) → (∀ q, q < n → row' (len + q) = row2 (base2 + q)) → ((x = .sl i b 0 0 len cap te.sz ∧ b' = b) ∨ b' = w.heap.size) →
      RepX F { st with env := (d, 0, .sl i b' 0 0 (len + n) cap' te.sz) :: st.env, hp := putHp st.hp i (b', true, .arr 0 N' row' te.sz u' (0, 0)) } a' w' → post P Q (.ops all l :: k) .normal a' w') :
    post P Q (.ops all (o :: l) :: k) .normal a w := by
  obtain ⟨w', b', cap', N', row', u', h1, h2, h3, h4, h5, h6, h7⟩ := append_mem htt (ty := o.type) hr.mem ht hd1 ht' hd2 hte hz hby hy hj hn2 hx hpos hbig hna
  show wpList P all (post P Q k) (o :: l) a w
  unfold wpList
  rw [if_pos (wanted_none hw)]
  refine .inl ?_
  have he0 : EnvRep st a := hr.env.same rfl rfl rfl rfl
  have e1 := evApp_sound (P := P) he0 he w
  rw [h1] at e1
  simp only [Oper.wp, e1, Result.andThen_ok, Oper.upon]
  refine hk _ w' b' cap' N' row' u' h2 h3 h4 h5 h6 ?_
  have hp0 : putS { st with s := w'.heap.size, k := 0 } (some d) 0 (.sl i b' 0 0 (len + n) cap' te.sz) = some { st with s := w'.heap.size, k := 0, env := (d, 0, .sl i b' 0 0 (len + n) cap' te.sz) :: st.env } := by
    simp only [putS, hdn, hks, decide_true, Bool.and_self, if_true]
  have hput := putS_sound (he0.same (st' := { st with s := w'.heap.size, k := 0 }) rfl rfl rfl rfl) (Nat.zero_le _) hp0
  simp only [cnd, if_true, den] at hput
  rw [hdst]
  exact Rep.of_mem (hput.same rfl rfl rfl rfl) h7
end Go.SX
namespace Go.SX
open Go Go.RowKit Go.ChangeShapes Go.WideShapes Go.Deep
variable {H : Type} {enc : TypeId × Value → H} {P : Program} {w : World} {held : Bool}
theorem cell_obj {w : World} {a : Addr} {v : Value} (h : w.cell? a = some v) : ∃ c t fz, w.heap[a.block]? = some (.cells c t fz) ∧ a.spot = none ∧ c[a.off]? = some v := by
  have hs := World.cell?_spot h
  unfold World.cell? at h
  split at h
  · rename_i c t fz hb
    rw [hs] at h
    simp at h
    exact ⟨c, t, fz, hb, hs, by simpa using h⟩
  · cases h
theorem addr_add (a : Addr) (n : Nat) (h : a.spot = none) : a.add n = ⟨a.block, a.off + n, none⟩ := by
  obtain ⟨b, o, s⟩ := a
  simp only at h
  subst h
  unfold Addr.add
  split <;> simp_all
theorem open_rows {t e : TypeId} {sz : Nat} {v : Value} {d : DataW H} {p : List MemPlace} (ht : P.underlying t = some (.slice e)) (hC : P.cellsOf e = sz) (hsz : 0 < sz) (Good : List SV → Prop)
    (hrow : ∀ fuel cs x, DataW.trod enc P w 0 (fun _ => true) held fuel e cs = some x → ∃ l, cs = denL l ∧ l.length = sz ∧ Good l)
    (h : DataW.Trod enc P w 0 (fun _ => true) held t v d p) (hw : (d.weights P t).all (· ≤ reachBytes) = true) {a : Option Addr} {n cap : Nat} (hv : v = .slice a n cap) :
    (n = 0 ∧ cap = 0) ∨ ∃ (b o0 : Nat) (u : TypeId) (fz : Nat × Nat) (row : Nat → List SV), a = some ⟨b, o0, none⟩ ∧ n ≤ cap ∧ 0 < cap ∧ SO.rep w b (.arr o0 cap row sz u fz) ∧ (∀ j, j < cap → Good (row j)) ∧ cap * P.bytesOf e ≤ reachBytes := by
  subst hv
  obtain ⟨fuel, hf⟩ := h
  rcases open_slice ht hf with ⟨hcs, _⟩ | ⟨a', len, cap', m, nn, D, Pl, hcs, _, hl, _, hm, hx, hi⟩
  · simp [Value.cells] at hcs
    exact .inl ⟨hcs.2.1, hcs.2.2⟩
  · simp [Value.cells] at hcs
    obtain ⟨rfl, rfl, rfl⟩ := hcs
    simp only [if_true] at hm
    subst hm
    simp only [Prod.mk.injEq] at hx
    obtain ⟨hd, _⟩ := hx
    rcases Nat.eq_zero_or_pos m with rfl | hpos
    · exact .inl ⟨by omega, rfl⟩
    · right
      rw [hC] at hi
      obtain ⟨cs0, h0, _⟩ := hi 0 hpos
      obtain ⟨_, hlen0, hat0⟩ := World.cells?_some h0
      have hc0 : w.cell? ((a'.add (0 * sz)).add 0) = some (cs0[0]'(by omega)) := by rw [hat0 0 hsz]; exact List.getElem?_eq_getElem _
      obtain ⟨c, u, fz, hb, hs, _⟩ := cell_obj hc0
      have h00 : (a'.add (0 * sz)).add 0 = a' := by simp [Addr.add]
      rw [h00] at hs hb
      have hs' : a'.spot = none := hs
      have hb' : w.heap[a'.block]? = some (.cells c u fz) := hb
      have hel : ∀ j, j < m → ∃ l, (∀ s, s < sz → c[a'.off + (j * sz + s)]? = (denL l)[s]?) ∧ l.length = sz ∧ Good l := by
        intro j hj
        obtain ⟨cs, h1, h2⟩ := hi j hj
        obtain ⟨l, rfl, hll, hg⟩ := hrow _ _ _ h2
        obtain ⟨_, _, hat⟩ := World.cells?_some h1
        refine ⟨l, fun s hs2 => ?_, hll, hg⟩
        have h3 := hat s hs2
        rw [← h3, addr_add _ _ hs', addr_add _ _ rfl]
        simp [World.cell?, hb', Nat.add_assoc]
      have hchoose : ∃ row : Nat → List SV, ∀ j, j < m → (∀ s, s < sz → c[a'.off + (j * sz + s)]? = (denL (row j))[s]?) ∧ (row j).length = sz ∧ Good (row j) := by
        refine ⟨fun j => if h : j < m then (hel j h).choose else [], fun j hj => ?_⟩
        simp only [dif_pos hj]
        exact (hel j hj).choose_spec
      obtain ⟨row, hrows⟩ := hchoose
      obtain ⟨b, off, spot⟩ := a'
      simp only at hs' hb' hrows
      subst hs'
      refine ⟨b, off, u, fz, row, rfl, hl, hpos, ⟨c, hb', ?_, fun j hj => ⟨(hrows j hj).2.1, (hrows j hj).1⟩⟩, fun j hj => (hrows j hj).2.2, ?_⟩
      · obtain ⟨h1, h2, h3⟩ := hrows (m - 1) (by omega)
        have h4 := h1 (sz - 1) (by omega)
        have h5 : (denL (row (m - 1)))[sz - 1]? ≠ none := by
          rw [denL_get?]
          simp [List.getElem?_eq_getElem (show sz - 1 < (row (m - 1)).length by omega)]
        rw [← h4] at h5
        have h6 : off + ((m - 1) * sz + (sz - 1)) < c.size := by
          rcases Nat.lt_or_ge (off + ((m - 1) * sz + (sz - 1))) c.size with h | h
          · exact h
          · exact absurd (Array.getElem?_eq_none h) h5
        have h7 : (m - 1) * sz + sz = m * sz := by
          rw [← Nat.succ_mul]; congr 1; omega
        omega
      · subst hd
        simp only [DataW.weights, ht, List.all_cons, Bool.and_eq_true, decide_eq_true_eq] at hw
        have := hw.1
        simp only [List.length_map, List.length_range] at this
        rwa [show n + (m - n) = m by omega] at this
end Go.SX
namespace Go.SX
open Go Go.RowKit
theorem rep_arr_sub {w : World} {b o0 N n : Nat} {row row' : Nat → List SV} {sz : Nat} {u : TypeId} {fz : Nat × Nat} (h : (SO.arr o0 N row sz u fz).rep w b) (hn : n ≤ N) (hr : ∀ j, j < n → denL (row j) = denL (row' j)) : (SO.arr o0 n row' sz u fz).rep w b := by
  obtain ⟨c, h1, h2, h3⟩ := h
  have := Nat.mul_le_mul_right sz hn
  refine ⟨c, h1, by omega, fun j hj => ?_⟩
  obtain ⟨h4, h5⟩ := h3 j (by omega)
  have h6 := hr j hj
  have h7 : (denL (row j)).length = (denL (row' j)).length := by rw [h6]
  rw [denL_length, denL_length] at h7
  exact ⟨by omega, fun s hs => by rw [← h6]; exact h5 s hs⟩
theorem IMap.congr {es : Array MapEntry} {clk : Nat} {m m' : Int → Option SV} (h : IMap es clk m) (hm : ∀ k, (m k).map den = (m' k).map den) : IMap es clk m' := by
  obtain ⟨l, h1, h2, h3, h4, h5⟩ := h
  refine ⟨l.map fun e => (e.1, (m' e.1).getD e.2.1, e.2.2), ?_, ?_, ?_, ?_, ?_⟩
  · rw [h1, List.map_map]
    congr 1
    apply List.map_congr_left
    intro e he
    have hme : m e.1 = some e.2.1 := (h5 e.1 e.2.1).2 ⟨e.2.2, he⟩
    have := hm e.1
    rw [hme] at this
    cases hm' : m' e.1 with
    | none => rw [hm'] at this; cases this
    | some y =>
      rw [hm'] at this
      simp only [Option.map_some, Option.some.injEq] at this
      simp [mkEntry, hm', this]
  · rw [List.map_map]; exact h2
  · rw [List.map_map]; exact h3
  · intro e he
    obtain ⟨e', he', rfl⟩ := List.mem_map.1 he
    exact h4 e' he'
  · intro k x
    constructor
    · intro hx
      have := hm k
      rw [hx] at this
      cases hmk : m k with
      | none => rw [hmk] at this; cases this
      | some y =>
        obtain ⟨n, hn⟩ := (h5 k y).1 hmk
        exact ⟨n, List.mem_map.2 ⟨(k, y, n), hn, by simp [hx]⟩⟩
    · rintro ⟨n, hn⟩
      obtain ⟨e, he, heq⟩ := List.mem_map.1 hn
      simp only [Prod.mk.injEq] at heq
      obtain ⟨e1, e2, e3⟩ := heq
      have hme : m k = some e.2.1 := (h5 k e.2.1).2 ⟨e.2.2, by rw [← e1]; exact he⟩
      have := hm k
      rw [hme] at this
      cases hmk : m' k with
      | none => rw [hmk] at this; cases this
      | some y => rw [e1, hmk] at e2; simpa using e2
theorem post_step {P : Program} {Q : Exit → Act → World → Prop} {all : Array Oper} {o : Oper} {l : List Oper} {k : List W} {a : Act} {w w' : World} {v : Value} (hw : o.guard = none) (he : (execOp a.eval o).run P w = .ok (.value v) w')
    (hk : post P Q (.ops all l :: k) .normal (a.put o.dst v) w') : post P Q (.ops all (o :: l) :: k) .normal a w := by
  show wpList P all (post P Q k) (o :: l) a w
  unfold wpList
  rw [if_pos (wanted_none hw)]
  refine .inl ?_
  simp only [Oper.wp, he, Oper.upon]
  exact hk
theorem post_stepD {P : Program} {Q : Exit → Act → World → Prop} {all : Array Oper} {hp0 : Hp} {o : Oper} {i : Nat} {l : List (Nat × Nat)} {k : List W} {a : Act} {w w' : World} {v : Value} (hi : all[i]? = some o) (hw : Region.wanted o (yielded all a.tmps) = true)
    (he : (execOp a.eval o).run P w = .ok (.value v) w') (hh : HpRep hp0 w') (hk : post P Q (.opsD all hp0 l :: k) .normal (a.put o.dst v) w') : post P Q (.opsD all hp0 ((i, 1) :: l) :: k) .normal a w := by
  show wpSeqD P all (post P Q k) (HpRep hp0) (HpRep (frz hp0)) ((i, 1) :: l) a w
  simp only [wpSeqD, Nat.reduceBEq, Bool.false_eq_true, if_false, if_true]
  unfold wpOp
  simp only [hi, hw, if_true]
  refine .inl ?_
  simp only [Oper.wp, he, Oper.upon]
  exact ⟨hh, HpRep.frz hh, hk⟩
theorem post_stepD3 {P : Program} {Q : Exit → Act → World → Prop} {all : Array Oper} {hp0 : Hp} {o : Oper} {i : Nat} {l : List (Nat × Nat)} {k : List W} {a : Act} {w w' : World} {v : Value} (hi : all[i]? = some o) (hw : Region.wanted o (yielded all a.tmps) = true)
    (he : (execOp a.eval o).run P w = .ok (.value v) w') (hfz : HpRep (frz hp0) w') (hk : post P Q (.opsD all hp0 l :: k) .normal (a.put o.dst v) w') : post P Q (.opsD all hp0 ((i, 3) :: l) :: k) .normal a w := by
  show wpSeqD P all (post P Q k) (HpRep hp0) (HpRep (frz hp0)) ((i, 3) :: l) a w
  simp only [wpSeqD, Nat.reduceBEq, Bool.false_eq_true, if_false, if_true]
  unfold wpOp
  simp only [hi, hw, if_true]
  refine .inl ?_
  simp only [Oper.wp, he, Oper.upon]
  exact ⟨hfz, hk⟩
theorem exec_builtin {P : Program} {st : St} {c : Nat} {o : Oper} {b : Builtin} {args : Array Operand} {ats : Array TypeId} {l : List SV} {a : Act} {w : World} (he : EnvRep st a) (hc : cnd st.cs c = true) (hop : o.op = .call { callee := .builtin b, args := args, argTypes := ats })
    (h : opds st c args.toList = some l) : (execOp a.eval o).run P w = (builtin b ats o.type (args.map fun | .const _ => true | _ => false) (denL l).toArray).run P w := by
  have e : args.map a.eval = (denL l).toArray := by
    apply Array.toList_inj.1
    rw [Array.toList_map]
    exact opds_sound he hc _ _ h
  simp only [execOp, hop, resolve, e, Sem.run_bind, Sem.run_pure, Result.andThen_ok, invoke]
  rfl
theorem IMap.size {es : Array MapEntry} {clk : Nat} {m : Int → Option SV} (h : IMap es clk m) {keys : List Int} (hn : keys.Nodup) (hk : ∀ k, (m k).isSome = true ↔ k ∈ keys) : es.size = keys.length := by
  obtain ⟨l, rfl, h1, _, _, h4⟩ := h
  have hp : (l.map (·.1)).Perm keys := by
    rw [List.perm_ext_iff_of_nodup h1 hn]
    intro k
    rw [← hk k]
    constructor
    · intro hm
      obtain ⟨e, he, rfl⟩ := List.mem_map.1 hm
      rw [(h4 e.1 e.2.1).2 ⟨e.2.2, he⟩]; rfl
    · intro hs
      obtain ⟨x, hx⟩ := Option.isSome_iff_exists.1 hs
      obtain ⟨n, hn⟩ := (h4 k x).1 hx
      exact List.mem_map.2 ⟨_, hn, rfl⟩
  simpa using hp.length_eq
theorem exec_callFunc {P : Program} {st : St} {c : Nat} {o : Oper} {g : FuncId} {l : List SV} {a : Act} {w : World} (he : EnvRep st a) (hc : cnd st.cs c = true) (h : evCall st c o.op = some (g, l)) :
    (execOp a.eval o).run P w = (callFunc g (denL l).toArray).run P w := by
  unfold evCall at h
  split at h
  · rename_i f args ats hop
    split at h
    · rename_i g' first cap l' hf hl
      cases h
      have e : args.map a.eval = (denL l').toArray := by
        apply Array.toList_inj.1
        rw [Array.toList_map]
        exact opds_sound he hc _ _ hl
      simp only [execOp, hop, resolve, e, opd_sound he hc hf, den, Deferred.ofValue, Sem.run_bind, Sem.run_pure, Result.andThen_ok, invoke, denL_append]
      simp
    · cases h
  · cases h
def KeepsTo (w : World) (M : List Nat) (w' : World) : Prop := Keeps ⟨w, w.heap.size, M⟩ w'
theorem KeepsTo.refl (w : World) (M : List Nat) : KeepsTo w M w := ⟨Nat.le_refl _, rfl, rfl, rfl, Nat.le_refl _, fun _ _ _ => rfl⟩
theorem KeepsTo.of {w w' : World} {M M' : List Nat} (h : Keeps ⟨w, w.heap.size, M⟩ w') (hs : ∀ x ∈ M, x ∈ M') : KeepsTo w M' w' :=
  ⟨h.hB, h.os, h.tape, h.output, h.size, fun k hk hm => h.block k hk fun h' => hm (hs k h')⟩
theorem KeepsTo.below {w w' : World} (h : Below w.heap.size w w') (M : List Nat) : KeepsTo w M w' := ⟨Nat.le_refl _, h.os, h.tape, h.output, h.size, fun k hk _ => h.block k hk⟩
theorem KeepsTo.same {w w' : World} {M : List Nat} (h : KeepsTo w M w') {b : Nat} {o : SO} (ho : o.rep w b) (hm : b ∉ M) : o.rep w' b := SO.rep_same ho (h.block b (SO.rep_lt ho) hm)
theorem Keeps.to {F : Fr} {w w' : World} {M : List Nat} (h : Keeps F w) (hk : KeepsTo w M w') (hM : ∀ b ∈ M, F.B ≤ b ∨ b ∈ F.M) : Keeps F w' :=
  ⟨h.hB, hk.os.trans h.os, hk.tape.trans h.tape, hk.output.trans h.output, Nat.le_trans h.size hk.size, fun k h1 h2 => by
    have h3 : k < w.heap.size := Nat.lt_of_lt_of_le h1 (Nat.le_trans h.hB h.size)
    rw [← h.block k h1 h2]
    refine hk.block k h3 fun hm => ?_
    rcases hM k hm with h4 | h4
    · omega
    · exact h2 h4⟩
theorem HpAll.to {F : Fr} {w w' : World} {M : List Nat} (hk : KeepsTo w M w') : ∀ {H : Hp}, HpAll F w H → (∀ e ∈ H, e.1 ∉ M) → HpAll F w' H
  | [], _, _ => trivial
  | (b, m, o) :: _, h, hn => ⟨⟨hk.same h.1.1 (hn (b, m, o) (by simp)), h.1.2⟩, HpAll.to hk h.2 fun e he => hn e (by simp [he])⟩
theorem RepX.retK {F : Fr} {st : St} {a : Act} {w w' : World} {M : List Nat} (h : RepX F st a w) (hk : KeepsTo w M w') (hM : ∀ b ∈ M, F.B ≤ b ∨ b ∈ F.M) (d : Nat) (x : SV) {v : Value} (hv : v = den x) (H : Hp) (hH : HpAll F w' H) (hd : d < st.nt)
    (hks : st.ks.all (fun r => r.tj != d) = true) : RepX F { st with env := (d, 0, x) :: st.env, hp := H } (a.put (some d) v) w' := by
  subst hv
  have hp0 : putS { st with s := w.heap.size, k := 0 } (some d) 0 x = some { st with s := w.heap.size, k := 0, env := (d, 0, x) :: st.env } := by
    simp only [putS, hd, hks, decide_true, Bool.and_self, if_true]
  have hput := putS_sound h.env (Nat.zero_le _) hp0
  simp only [cnd, if_true] at hput
  exact Rep.of_mem (hput.same rfl rfl rfl rfl) (hH.memRep (h.keeps.to hk hM))
theorem RepX.memK {F : Fr} {st : St} {a : Act} {w w' : World} {M : List Nat} (h : RepX F st a w) (hk : KeepsTo w M w') (hM : ∀ b ∈ M, F.B ≤ b ∨ b ∈ F.M) (H : Hp) (hH : HpAll F w' H) : RepX F { st with hp := H } a w' :=
  Rep.of_mem (h.env.same rfl rfl rfl rfl) (hH.memRep (h.keeps.to hk hM))
theorem putBlk_keeps {w : World} {b : Nat} {o : Obj} : KeepsTo w [b] (putBlk w b o) :=
  ⟨Nat.le_refl _, rfl, rfl, rfl, by rw [putBlk_size]; exact Nat.le_refl _, fun k _ hm => putBlk_ne fun e => hm (by simp [e])⟩
theorem post_stepD0 {P : Program} {Q : Exit → Act → World → Prop} {all : Array Oper} {hp0 : Hp} {o : Oper} {i : Nat} {l : List (Nat × Nat)} {k : List W} {a : Act} {w : World} {v : Value} (hi : all[i]? = some o) (hw : Region.wanted o (yielded all a.tmps) = true)
    (he : ∀ w', HpRep hp0 w' → (execOp a.eval o).run P w' = .ok (.value v) w') (hk : post P Q (.opsD all hp0 l :: k) .normal (a.put o.dst v) w) : post P Q (.opsD all hp0 ((i, 0) :: l) :: k) .normal a w := by
  show wpSeqD P all (post P Q k) (HpRep hp0) (HpRep (frz hp0)) ((i, 0) :: l) a w
  simp only [wpSeqD, beq_self_eq_true, if_true]
  exact ⟨o, v, hi, .inl ⟨hw, he⟩, hk⟩
end Go.SX
