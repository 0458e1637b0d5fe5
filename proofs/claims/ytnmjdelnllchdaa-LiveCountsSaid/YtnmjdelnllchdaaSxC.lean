/-
  Operations at the walk's edge: any operation by what it yields; delete; the length of a map; calls that write.
-/
import Derived.Test.YtnmjdelnllchdaaSxB
import Derived.Laws.LoneSync
namespace Go.SX
set_option linter.unusedVariables false
set_option linter.unusedSimpArgs false
set_option linter.unusedSectionVars false
open Go Go.RowKit

theorem rep_arr_sub {w : World} {b o0 N n : Nat} {row row' : Nat → List SV} {sz : Nat} {u : TypeId} {fz : Nat × Nat} (h : (SO.arr o0 N row sz u fz).rep w b) (hn : n ≤ N) (hr : ∀ j, j < n → denL (row j) = denL (row' j)) : (SO.arr o0 n row' sz u fz).rep w b := by
  obtain ⟨c, h1, h2, h3⟩ := h
  have := Nat.mul_le_mul_right sz hn
  refine ⟨c, h1, by omega, fun j hj => ?_⟩
  obtain ⟨h4, h5⟩ := h3 j (by omega)
  have h6 := hr j hj
  have h7 : (denL (row j)).length = (denL (row' j)).length := by rw [h6]
  rw [denL_length, denL_length] at h7
  exact ⟨by omega, fun s hs => by rw [← h6]; exact h5 s hs⟩

theorem IMap.congr {es : Array MapEntry} {clk : Nat} {m m' : Int → Option SV} (h : IMap es clk m) (hm : ∀ k, (m k).map den = (m' k).map den) : IMap es clk m' := by
  obtain ⟨l, h1, h2, h3, h4, h5⟩ := h
  refine ⟨l.map fun e => (e.1, (m' e.1).getD e.2.1, e.2.2), ?_, ?_, ?_, ?_, ?_⟩
  · rw [h1, List.map_map]
    congr 1
    apply List.map_congr_left
    intro e he
    have hme : m e.1 = some e.2.1 := (h5 e.1 e.2.1).2 ⟨e.2.2, he⟩
    have := hm e.1
    rw [hme] at this
    cases hm' : m' e.1 with
    | none => rw [hm'] at this; cases this
    | some y =>
      rw [hm'] at this
      simp only [Option.map_some, Option.some.injEq] at this
      simp [mkEntry, hm', this]
  · rw [List.map_map]; exact h2
  · rw [List.map_map]; exact h3
  · intro e he
    obtain ⟨e', he', rfl⟩ := List.mem_map.1 he
    exact h4 e' he'
  · intro k x
    constructor
    · intro hx
      have := hm k
      rw [hx] at this
      cases hmk : m k with
      | none => rw [hmk] at this; cases this
      | some y =>
        obtain ⟨n, hn⟩ := (h5 k y).1 hmk
        exact ⟨n, List.mem_map.2 ⟨(k, y, n), hn, by simp [hx]⟩⟩
    · rintro ⟨n, hn⟩
      obtain ⟨e, he, heq⟩ := List.mem_map.1 hn
      simp only [Prod.mk.injEq] at heq
      obtain ⟨e1, e2, e3⟩ := heq
      have hme : m k = some e.2.1 := (h5 k e.2.1).2 ⟨e.2.2, by rw [← e1]; exact he⟩
      have := hm k
      rw [hme] at this
      cases hmk : m' k with
      | none => rw [hmk] at this; cases this
      | some y => rw [e1, hmk] at e2; simpa using e2

theorem imap_congr {w : World} {b : Nat} {m m' : Int → Option SV} (h : (SO.imap m).rep w b) (hm : ∀ k, (m k).map den = (m' k).map den) : (SO.imap m').rep w b := by
  obtain ⟨es, clk, h1, h2⟩ := h
  exact ⟨es, clk, h1, IMap.congr h2 hm⟩

/-! ### Any operation -/
theorem post_step {P : Program} {Q : Exit → Act → World → Prop} {all : Array Oper} {o : Oper} {l : List Oper} {k : List W} {a : Act} {w w' : World} {v : Value} (hw : o.guard = none) (he : (execOp a.eval o).run P w = .ok (.value v) w')
    (hk : post P Q (.ops all l :: k) .normal (a.put o.dst v) w') : post P Q (.ops all (o :: l) :: k) .normal a w := by
  show wpList P all (post P Q k) (o :: l) a w
  unfold wpList
  rw [if_pos (wanted_none hw)]
  refine .inl ?_
  simp only [Oper.wp, he, Oper.upon]
  exact hk

theorem post_stepD {P : Program} {Q : Exit → Act → World → Prop} {all : Array Oper} {hp0 : Hp} {o : Oper} {i : Nat} {l : List (Nat × Nat)} {k : List W} {a : Act} {w w' : World} {v : Value} (hi : all[i]? = some o) (hw : Region.wanted o (yielded all a.tmps) = true)
    (he : (execOp a.eval o).run P w = .ok (.value v) w') (hh : HpRep hp0 w') (hk : post P Q (.opsD all hp0 l :: k) .normal (a.put o.dst v) w') : post P Q (.opsD all hp0 ((i, 1) :: l) :: k) .normal a w := by
  show wpSeqD P all (post P Q k) (HpRep hp0) (HpRep (frz hp0)) ((i, 1) :: l) a w
  simp only [wpSeqD, Nat.reduceBEq, Bool.false_eq_true, if_false, if_true]
  unfold wpOp
  simp only [hi, hw, if_true]
  refine .inl ?_
  simp only [Oper.wp, he, Oper.upon]
  exact ⟨hh, HpRep.frz hh, hk⟩

theorem post_stepD3 {P : Program} {Q : Exit → Act → World → Prop} {all : Array Oper} {hp0 : Hp} {o : Oper} {i : Nat} {l : List (Nat × Nat)} {k : List W} {a : Act} {w w' : World} {v : Value} (hi : all[i]? = some o) (hw : Region.wanted o (yielded all a.tmps) = true)
    (he : (execOp a.eval o).run P w = .ok (.value v) w') (hfz : HpRep (frz hp0) w') (hk : post P Q (.opsD all hp0 l :: k) .normal (a.put o.dst v) w') : post P Q (.opsD all hp0 ((i, 3) :: l) :: k) .normal a w := by
  show wpSeqD P all (post P Q k) (HpRep hp0) (HpRep (frz hp0)) ((i, 3) :: l) a w
  simp only [wpSeqD, Nat.reduceBEq, Bool.false_eq_true, if_false, if_true]
  unfold wpOp
  simp only [hi, hw, if_true]
  refine .inl ?_
  simp only [Oper.wp, he, Oper.upon]
  exact ⟨hfz, hk⟩

theorem exec_builtin {P : Program} {st : St} {c : Nat} {o : Oper} {b : Builtin} {args : Array Operand} {ats : Array TypeId} {l : List SV} {a : Act} {w : World} (he : EnvRep st a) (hc : cnd st.cs c = true) (hop : o.op = .call { callee := .builtin b, args := args, argTypes := ats })
    (h : opds st c args.toList = some l) : (execOp a.eval o).run P w = (builtin b ats o.type (args.map fun | .const _ => true | _ => false) (denL l).toArray).run P w := by
  have e : args.map a.eval = (denL l).toArray := by
    apply Array.toList_inj.1
    rw [Array.toList_map]
    exact opds_sound he hc _ _ h
  simp only [execOp, hop, resolve, e, Sem.run_bind, Sem.run_pure, Result.andThen_ok, invoke]
  rfl

/-! ### delete -/
def delFn (m : Int → Option SV) (k : Int) : Int → Option SV := fun j => if j = k then none else m j

theorem IMap.erase {l : List (Int × SV × Nat)} {clk : Nat} {m : Int → Option SV} {k : Int} {y : SV} {j n : Nat} (h1 : (l.map (·.1)).Nodup) (h2 : (l.map (·.2.2)).Nodup) (h3 : ∀ e ∈ l, e.2.2 < clk) (h4 : ∀ k x, m k = some x ↔ ∃ n, (k, x, n) ∈ l)
    (hj : l[j]? = some (k, y, n)) : IMap ((l.map mkEntry).toArray.eraseIdxIfInBounds j) clk (delFn m k) := by
  have hlt : j < l.length := (List.getElem?_eq_some_iff.1 hj).1
  have hsub : (l.eraseIdx j).Sublist l := List.eraseIdx_sublist l j
  refine ⟨l.eraseIdx j, ?_, (hsub.map _).nodup h1, (hsub.map _).nodup h2, fun e he => h3 e (hsub.subset he), fun i z => ?_⟩
  · rw [Array.eraseIdxIfInBounds, dif_pos (by simpa using hlt)]
    simp
    apply List.ext_getElem?
    intro i
    simp only [List.getElem?_map, List.getElem?_eraseIdx]
    split <;> rfl
  · have hmem : ∀ e : Int × SV × Nat, e ∈ l.eraseIdx j ↔ (e ∈ l ∧ e.1 ≠ k) := by
      intro e
      rw [List.mem_eraseIdx_iff_getElem?]
      constructor
      · rintro ⟨i, hij, hi⟩
        refine ⟨List.mem_of_getElem? hi, fun hk => hij ?_⟩
        have a1 : (l.map (·.1))[j]? = some k := by rw [List.getElem?_map, hj]; rfl
        have a2 : (l.map (·.1))[i]? = some k := by rw [List.getElem?_map, hi, ← hk]; rfl
        exact ((List.getElem?_inj (by simpa using hlt) h1).1 (a1.trans a2.symm)).symm
      · rintro ⟨he, hk⟩
        obtain ⟨i, hi⟩ := List.getElem?_of_mem he
        refine ⟨i, ?_, hi⟩
        rintro rfl
        rw [hj] at hi; cases hi; exact hk rfl
    simp only [delFn, hmem]
    by_cases hi : i = k
    · subst hi; simp
    · simp [hi, h4]

theorem run_delete {P : Program} {t t' ty kt et : TypeId} {b : Nat} {es : Array MapEntry} {clk : Nat} {m : Int → Option SV} {w : World} (ht : P.underlying t = some (.map kt et)) (hk : P.underlying kt = some (.int .i64))
    (hb : w.heap[b]? = some (.map es clk)) (hm : IMap es clk m) (k : Int) :
    ∃ es', (Builtin.delete_ #[t, t'] ty #[.map (some b), .int .i64 k]).run P w = .ok (.tuple #[]) (putBlk w b (.map es' clk)) ∧ IMap es' clk (delFn m k) := by
  obtain ⟨l, rfl, h1, h2, h3, h4⟩ := hm
  have hck : ∀ e, (Instr.checkKey e 10000 kt (.int .i64 k)).run P w = .ok () w := fun e => run_checkKey_int hk e k w 9999
  have hgo : (getObj b).run P w = .ok (.map (l.map mkEntry).toArray clk) w := by simp [getObj, Sem.run, hb]
  have hset : ∀ o, (setObj b o).run P w = .ok () (putBlk w b o) := fun o => by simp [setObj, Sem.run, hb, putBlk]
  have hfk : (Instr.findKey kt (.int .i64 k) (l.map mkEntry)).run P w = .ok ((l.findIdx? (fun e => k == e.1)).map fun j => (0 + j, ((l[j]?).map fun e => den e.2.1).getD undef)) w := by
    simp only [Instr.findKey, Sem.run_bind, run_underlying hk, Result.andThen_ok, findNow_map, Sem.run_pure]
  cases hf : l.findIdx? (fun e => k == e.1) with
  | none =>
    refine ⟨(l.map mkEntry).toArray, ?_, l, rfl, h1, h2, h3, fun i z => ?_⟩
    · simp [Builtin.delete_, run_underlying ht, hgo, hck, hfk, hf, hset]
    · simp only [delFn]
      by_cases hi : i = k
      · subst hi
        simp only [if_true]
        constructor
        · rintro h; cases h
        · rintro ⟨n, hn⟩; exact absurd hn (find_none hf z n)
      · simp [hi, h4]
  | some j =>
    obtain ⟨y, n, hx⟩ := find_some hf
    refine ⟨_, ?_, IMap.erase h1 h2 h3 h4 hx⟩
    simp [Builtin.delete_, run_underlying ht, hgo, hck, hfk, hf, hset]

theorem exec_delete {P : Program} {st : St} {c : Nat} {o : Oper} {args : Array Operand} {t t' kt et : TypeId} {a : Act} {w : World} {i b : Nat} {m : Int → Option SV} {k : Int} (he : EnvRep st a) (hc : cnd st.cs c = true)
    (hop : o.op = .call { callee := .builtin .delete, args := args, argTypes := #[t, t'] }) (h : opds st c args.toList = some [.mp i b, .v (.int .i64 k)]) (ht : P.underlying t = some (.map kt et)) (hk : P.underlying kt = some (.int .i64)) (hm : (SO.imap m).rep w b) :
    ∃ o', (execOp a.eval o).run P w = .ok (.value (.tuple #[])) (putBlk w b o') ∧ (SO.imap (delFn m k)).rep (putBlk w b o') b := by
  obtain ⟨es, clk, hb, hi⟩ := hm
  obtain ⟨es', h1, h2⟩ := run_delete (P := P) (w := w) (t' := t') (ty := o.type) ht hk hb hi k
  refine ⟨.map es' clk, ?_, es', clk, putBlk_same (lt_of_heap hb), h2⟩
  rw [exec_builtin he hc hop h]
  simp only [builtin, denL, den, Sem.run_bind, h1, Result.andThen_ok, Sem.run_pure]

/-- 'delete(m, k)' in a region that draws. -/
theorem post_deleteD {P : Program} {Q : Exit → Act → World → Prop} {F : Fr} {st : St} {all : Array Oper} {hp0 : Hp} {o : Oper} {i : Nat} {l : List (Nat × Nat)} {ks : List W} {a : Act} {w : World} {args : Array Operand} {t t' kt et : TypeId} {j b : Nat} {m : Int → Option SV} {k : Int}
    (hr : RepX F st a w) (hi : all[i]? = some o) (hg : o.guard = none) (hd : o.dst = none) (hop : o.op = .call { callee := .builtin .delete, args := args, argTypes := #[t, t'] }) (h : opds st 0 args.toList = some [.mp j b, .v (.int .i64 k)])
    (ht : P.underlying t = some (.map kt et)) (hk : P.underlying kt = some (.int .i64)) (hj : st.hp[j]? = some (b, true, .imap m))
    (htl : tails l = true) (hn : ∀ w', RepX F { st with hp := st.hp.set j (b, true, .imap (delFn m k)) } a w' → post P Q (.opsD all [] l :: ks) .normal a w') (hfz : frz hp0 = [] := by rfl) : post P Q (.opsD all hp0 ((i, 3) :: l) :: ks) .normal a w := by
  obtain ⟨o', h1, h2⟩ := exec_delete (P := P) (c := 0) (hr.env.same (st' := st) rfl rfl rfl rfl) rfl hop h ht hk (hr.hp j b true _ hj)
  refine post_stepD3 hi (wanted_none hg) h1 (by rw [hfz]; exact HpRep.nil) ?_
  rw [hd]
  have hm := hr.mem.store hj (new := .imap (delFn m k)) h2
  have hgo : ∀ a w, wpSeqD P all (post P Q ks) (HpRep []) (HpRep (frz [])) l a w → wpSeqD P all (post P Q ks) (HpRep hp0) (HpRep (frz hp0)) l a w := fun a w h => by rw [hfz]; exact seqD_tails _ l _ _ htl h
  refine hgo _ _ (hn _ (Rep.of_mem (hr.env.same rfl rfl rfl rfl) ?_))
  show MemRep F _ (putBlk w b o').heap.size 0 (putBlk w b o')
  rw [putBlk_size]
  exact hm

/-- The length of a map whose keys are told. -/
theorem IMap.size {es : Array MapEntry} {clk : Nat} {m : Int → Option SV} (h : IMap es clk m) {keys : List Int} (hn : keys.Nodup) (hk : ∀ k, (m k).isSome = true ↔ k ∈ keys) : es.size = keys.length := by
  obtain ⟨l, rfl, h1, _, _, h4⟩ := h
  have hp : (l.map (·.1)).Perm keys := by
    rw [List.perm_ext_iff_of_nodup h1 hn]
    intro k
    rw [← hk k]
    constructor
    · intro hm
      obtain ⟨e, he, rfl⟩ := List.mem_map.1 hm
      rw [(h4 e.1 e.2.1).2 ⟨e.2.2, he⟩]; rfl
    · intro hs
      obtain ⟨x, hx⟩ := Option.isSome_iff_exists.1 hs
      obtain ⟨n, hn⟩ := (h4 k x).1 hx
      exact List.mem_map.2 ⟨_, hn, rfl⟩
  simpa using hp.length_eq

theorem exec_maplen {P : Program} {st : St} {c : Nat} {o : Oper} {args : Array Operand} {t kt et : TypeId} {a : Act} {w : World} {i b : Nat} {m : Int → Option SV} {keys : List Int} (he : EnvRep st a) (hc : cnd st.cs c = true)
    (hop : o.op = .call { callee := .builtin .len, args := args, argTypes := #[t] }) (h : opds st c args.toList = some [.mp i b]) (ht : P.underlying t = some (.map kt et)) (hm : (SO.imap m).rep w b) (hn : keys.Nodup) (hk : ∀ k, (m k).isSome = true ↔ k ∈ keys) :
    (execOp a.eval o).run P w = .ok (.value (.int .i64 keys.length)) w := by
  obtain ⟨es, clk, hb, hi⟩ := hm
  rw [exec_builtin he hc hop h]
  have hgo : (getObj b).run P w = .ok (.map es clk) w := by simp [getObj, Sem.run, hb]
  simp [builtin, Builtin.len_, denL, den, run_underlying ht, hgo, goInt, hi.size hn hk]

/-! ### Calls that write -/
theorem exec_callFunc {P : Program} {st : St} {c : Nat} {o : Oper} {g : FuncId} {l : List SV} {a : Act} {w : World} (he : EnvRep st a) (hc : cnd st.cs c = true) (h : evCall st c o.op = some (g, l)) :
    (execOp a.eval o).run P w = (callFunc g (denL l).toArray).run P w := by
  unfold evCall at h
  split at h
  · rename_i f args ats hop
    split at h
    · rename_i g' first cap l' hf hl
      cases h
      have e : args.map a.eval = (denL l').toArray := by
        apply Array.toList_inj.1
        rw [Array.toList_map]
        exact opds_sound he hc _ _ hl
      simp only [execOp, hop, resolve, e, opd_sound he hc hf, den, Deferred.ofValue, Sem.run_bind, Sem.run_pure, Result.andThen_ok, invoke, denL_append]
      simp
    · cases h
  · cases h

/-- What a call may change: blocks of M, and new ones. -/
def KeepsTo (w : World) (M : List Nat) (w' : World) : Prop := Keeps ⟨w, w.heap.size, M⟩ w'

theorem KeepsTo.refl (w : World) (M : List Nat) : KeepsTo w M w := ⟨Nat.le_refl _, rfl, rfl, rfl, Nat.le_refl _, fun _ _ _ => rfl⟩

theorem KeepsTo.of {w w' : World} {M M' : List Nat} (h : Keeps ⟨w, w.heap.size, M⟩ w') (hs : ∀ x ∈ M, x ∈ M') : KeepsTo w M' w' :=
  ⟨h.hB, h.os, h.tape, h.output, h.size, fun k hk hm => h.block k hk fun h' => hm (hs k h')⟩

theorem KeepsTo.below {w w' : World} (h : Below w.heap.size w w') (M : List Nat) : KeepsTo w M w' := ⟨Nat.le_refl _, h.os, h.tape, h.output, h.size, fun k hk _ => h.block k hk⟩

theorem KeepsTo.same {w w' : World} {M : List Nat} (h : KeepsTo w M w') {b : Nat} {o : SO} (ho : o.rep w b) (hm : b ∉ M) : o.rep w' b := SO.rep_same ho (h.block b (SO.rep_lt ho) hm)

theorem Keeps.to {F : Fr} {w w' : World} {M : List Nat} (h : Keeps F w) (hk : KeepsTo w M w') (hM : ∀ b ∈ M, F.B ≤ b ∨ b ∈ F.M) : Keeps F w' :=
  ⟨h.hB, hk.os.trans h.os, hk.tape.trans h.tape, hk.output.trans h.output, Nat.le_trans h.size hk.size, fun k h1 h2 => by
    have h3 : k < w.heap.size := Nat.lt_of_lt_of_le h1 (Nat.le_trans h.hB h.size)
    rw [← h.block k h1 h2]
    refine hk.block k h3 fun hm => ?_
    rcases hM k hm with h4 | h4
    · omega
    · exact h2 h4⟩

theorem HpAll.to {F : Fr} {w w' : World} {M : List Nat} (hk : KeepsTo w M w') : ∀ {H : Hp}, HpAll F w H → (∀ e ∈ H, e.1 ∉ M) → HpAll F w' H
  | [], _, _ => trivial
  | (b, m, o) :: _, h, hn => ⟨⟨hk.same h.1.1 (hn (b, m, o) (by simp)), h.1.2⟩, HpAll.to hk h.2 fun e he => hn e (by simp [he])⟩

/-- The slot of a result behind a call that writes. -/
theorem RepX.retK {F : Fr} {st : St} {a : Act} {w w' : World} {M : List Nat} (h : RepX F st a w) (hk : KeepsTo w M w') (hM : ∀ b ∈ M, F.B ≤ b ∨ b ∈ F.M) (d : Nat) (x : SV) {v : Value} (hv : v = den x) (H : Hp) (hH : HpAll F w' H) (hd : d < st.nt)
    (hks : st.ks.all (fun r => r.tj != d) = true) : RepX F { st with env := (d, 0, x) :: st.env, hp := H } (a.put (some d) v) w' := by
  subst hv
  have hp0 : putS { st with s := w.heap.size, k := 0 } (some d) 0 x = some { st with s := w.heap.size, k := 0, env := (d, 0, x) :: st.env } := by
    simp only [putS, hd, hks, decide_true, Bool.and_self, if_true]
  have hput := putS_sound h.env (Nat.zero_le _) hp0
  simp only [cnd, if_true] at hput
  exact Rep.of_mem (hput.same rfl rfl rfl rfl) (hH.memRep (h.keeps.to hk hM))

/-- An operation without a slot behind which memory is another. -/
theorem RepX.memK {F : Fr} {st : St} {a : Act} {w w' : World} {M : List Nat} (h : RepX F st a w) (hk : KeepsTo w M w') (hM : ∀ b ∈ M, F.B ≤ b ∨ b ∈ F.M) (H : Hp) (hH : HpAll F w' H) : RepX F { st with hp := H } a w' :=
  Rep.of_mem (h.env.same rfl rfl rfl rfl) (hH.memRep (h.keeps.to hk hM))

theorem putBlk_keeps {w : World} {b : Nat} {o : Obj} : KeepsTo w [b] (putBlk w b o) :=
  ⟨Nat.le_refl _, rfl, rfl, rfl, by rw [putBlk_size]; exact Nat.le_refl _, fun k _ hm => putBlk_ne fun e => hm (by simp [e])⟩

/-! ### Atomics -/
theorem run_atomic_add {P : Program} {g : FuncId} {fn : Func} (hf : P.funcs[g]? = some fn) (hname : (fn.name == "runtime.NumGoroutine") = false) (hb : fn.body.isNone = true) (hn : Extern.findNext fn = none)
    (he : Extern.find fn = some (Extern.Atomic.update (Op.intArith .add) .i64 true)) {w : World} {c o : Nat} {l : List SV} {t : TypeId} {x d : Int} (hr : (SO.cells l t).rep w c) (hl : l[o]? = some (.v (.int .i64 x))) (hin : inK (x + d)) :
    (callFunc g #[.pointer (some ⟨c, o, none⟩), .int .i64 d]).run P w = .ok (.value (.int .i64 (x + d))) (putBlk w c (.cells (denL (l.set o (.v (.int .i64 (x + d))))).toArray t (0, 0))) := by
  have hb' : w.heap[c]? = some (.cells (denL l).toArray t (0, 0)) := hr
  have hc : w.cell? ⟨c, o, none⟩ = some (.int .i64 x) := by simp [World.cell?, hb', denL_get?, hl, den]
  rw [run_call_add hf hname hb hn .i64 he hc (by simp [World.frozen?, hb']) (s := x + d) (by simp [Op.intArith, wrap_inK hin]), setCell_putBlk hb']
  congr 3
  apply Array.ext'
  simp [denL_map, List.map_set, den]

theorem run_atomic_load {P : Program} {g : FuncId} {fn : Func} (hf : P.funcs[g]? = some fn) (hname : (fn.name == "runtime.NumGoroutine") = false) (hb : fn.body.isNone = true) (hn : Extern.findNext fn = none)
    (he : Extern.find fn = some (Extern.Atomic.loadT (.int .i64))) {w : World} {c o : Nat} {l : List SV} {t : TypeId} {x : Int} (hr : (SO.cells l t).rep w c) (hl : l[o]? = some (.v (.int .i64 x))) :
    (callFunc g #[.pointer (some ⟨c, o, none⟩)]).run P w = .ok (.value (.int .i64 x)) w := by
  have hb' : w.heap[c]? = some (.cells (denL l).toArray t (0, 0)) := hr
  have hc : w.cell? ⟨c, o, none⟩ = some (.int .i64 x) := by simp [World.cell?, hb', denL_get?, hl, den]
  exact run_call_load hf hname hb hn .i64 he hc

/-- An operation that may come early in a region that draws. -/
theorem post_stepD0 {P : Program} {Q : Exit → Act → World → Prop} {all : Array Oper} {hp0 : Hp} {o : Oper} {i : Nat} {l : List (Nat × Nat)} {k : List W} {a : Act} {w : World} {v : Value} (hi : all[i]? = some o) (hw : Region.wanted o (yielded all a.tmps) = true)
    (he : ∀ w', HpRep hp0 w' → (execOp a.eval o).run P w' = .ok (.value v) w') (hk : post P Q (.opsD all hp0 l :: k) .normal (a.put o.dst v) w) : post P Q (.opsD all hp0 ((i, 0) :: l) :: k) .normal a w := by
  show wpSeqD P all (post P Q k) (HpRep hp0) (HpRep (frz hp0)) ((i, 0) :: l) a w
  simp only [wpSeqD, beq_self_eq_true, if_true]
  exact ⟨o, v, hi, .inl ⟨hw, he⟩, hk⟩

/-- The length of a map in a region that draws. -/
theorem post_maplenD {P : Program} {Q : Exit → Act → World → Prop} {F : Fr} {st : St} {all : Array Oper} {hp0 : Hp} {o : Oper} {i : Nat} {l : List (Nat × Nat)} {ks : List W} {a : Act} {w : World} {args : Array Operand} {t kt et : TypeId} {j b : Nat} {mu : Bool} {m : Int → Option SV} (keys : List Int)
    (hr : RepX F st a w) (hi : all[i]? = some o) (hg : o.guard = none) {d : Nat} (hd : o.dst = some d) (hop : o.op = .call { callee := .builtin .len, args := args, argTypes := #[t] }) (h : opds st 0 args.toList = some [.mp j b]) (ht : P.underlying t = some (.map kt et))
    (hj : hp0[j]? = some (b, mu, .imap m)) (hn : keys.Nodup) (hk : ∀ k, (m k).isSome = true ↔ k ∈ keys) (hdn : d < st.nt) (hks : st.ks.all (fun r => r.tj != d) = true)
    (hc : ∀ a', RepX F { st with env := (d, 0, .v (.int .i64 keys.length)) :: st.env } a' w → post P Q (.opsD all hp0 l :: ks) .normal a' w) : post P Q (.opsD all hp0 ((i, 0) :: l) :: ks) .normal a w := by
  refine post_stepD0 (v := .int .i64 keys.length) hi (wanted_none hg) (fun w' hw' => exec_maplen (c := 0) (hr.env.same (st' := st) rfl rfl rfl rfl) rfl hop h ht (hw' j b mu _ hj) hn hk) ?_
  rw [hd]
  refine hc _ ?_
  exact hr.retK (KeepsTo.refl w []) (by simp) d (.v (.int .i64 keys.length)) rfl st.hp hr.all hdn hks


/-- append in a region that draws. -/
theorem post_appendD {P : Program} {C : Cfg} (htt : TTok P C.tt) {Q : Exit → Act → World → Prop} {F : Fr} {st : St} {all : Array Oper} {o : Oper} {hp0 : Hp} {ix : Nat} {l : List (Nat × Nat)} {k : List W} {a : Act} {w : World} (hr : RepX F st a w) (hix : all[ix]? = some o) (htl : tails l = true) (hw : o.guard = none) {d : Nat} (hdst : o.dst = some d) (hdn : d < st.nt) (hks : st.ks.all (fun r => r.tj != d) = true)
    {x y : SV} {t t' : TypeId} (he : evApp st o.op = some (x, y, t, t')) {e e' : TypeId} {ti ti' te : TI} (ht : lookT C.tt t = some ti) (hd1 : ti.d = .slice e) (ht' : lookT C.tt t' = some ti') (hd2 : ti'.d = .slice e')
    (hte : lookT C.tt e = some te) (hz : te.zero.cells.size = te.sz) (hby : te.by_ ≠ 0) {j b2 o2 base2 n cap2 N2 : Nat} {m2 : Bool} {row2 : Nat → List SV} {t2 : TypeId} {fz2 : Nat × Nat} (hy : y = .sl j b2 o2 base2 n cap2 te.sz) (hj : st.hp[j]? = some (b2, m2, .arr o2 N2 row2 te.sz t2 fz2)) (hn2 : base2 + n ≤ N2)
    {i b len cap N : Nat} {row : Nat → List SV} {u : TypeId} (hx : (x = .v (.slice none 0 0) ∧ len = 0 ∧ cap = 0 ∧ i = st.hp.length) ∨ (x = .sl i b 0 0 len cap te.sz ∧ st.hp[i]? = some (b, true, .arr 0 N row te.sz u (0, 0)) ∧ cap ≤ N ∧ len ≤ cap))
    (hpos : 0 < n) (hbig : (2 * (len + n) + 192) * te.by_ ≤ 281474976710656) (hna : ∀ j, j < n → ∀ x ∈ row2 (base2 + j), NotAgg (den x))
    (hk : ∀ a' w' b' cap' N' row' u', len + n ≤ cap' → cap' ≤ N' → (∀ q, q < len → row' q = row q) → (∀ q, q < n → row' (len + q) = row2 (base2 + q)) → ((x = .sl i b 0 0 len cap te.sz ∧ b' = b) ∨ b' = w.heap.size) →
      RepX F { st with env := (d, 0, .sl i b' 0 0 (len + n) cap' te.sz) :: st.env, hp := putHp st.hp i (b', true, .arr 0 N' row' te.sz u' (0, 0)) } a' w' → post P Q (.opsD all [] l :: k) .normal a' w') (hfz : frz hp0 = [] := by rfl) :
    post P Q (.opsD all hp0 ((ix, 3) :: l) :: k) .normal a w := by
  obtain ⟨w', b', cap', N', row', u', h1, h2, h3, h4, h5, h6, h7⟩ := append_mem htt (ty := o.type) hr.mem ht hd1 ht' hd2 hte hz hby hy hj hn2 hx hpos hbig hna
  have he0 : EnvRep st a := hr.env.same rfl rfl rfl rfl
  have e1 := evApp_sound (P := P) he0 he w
  rw [h1] at e1
  simp only [Result.andThen_ok] at e1
  have hgo : ∀ a w, wpSeqD P all (post P Q k) (HpRep []) (HpRep (frz [])) l a w → wpSeqD P all (post P Q k) (HpRep hp0) (HpRep (frz hp0)) l a w := fun a w h => by rw [hfz]; exact seqD_tails _ l _ _ htl h
  refine post_stepD3 hix (wanted_none hw) e1 (by rw [hfz]; exact HpRep.nil) (hgo _ _ (hk _ w' b' cap' N' row' u' h2 h3 h4 h5 h6 ?_))
  have hpS : putS { st with s := w'.heap.size, k := 0 } (some d) 0 (.sl i b' 0 0 (len + n) cap' te.sz) = some { st with s := w'.heap.size, k := 0, env := (d, 0, .sl i b' 0 0 (len + n) cap' te.sz) :: st.env } := by
    simp only [putS, hdn, hks, decide_true, Bool.and_self, if_true]
  have hput := putS_sound (he0.same (st' := { st with s := w'.heap.size, k := 0 }) rfl rfl rfl rfl) (Nat.zero_le _) hpS
  simp only [cnd, if_true, den] at hput
  rw [hdst]
  exact Rep.of_mem (hput.same rfl rfl rfl rfl) h7

end Go.SX
