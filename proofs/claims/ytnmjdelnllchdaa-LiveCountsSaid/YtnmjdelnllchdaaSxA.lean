/-
  Part 10: how a function is entered, how its rest is walked, its loops, its calls, its end. Holds for every program.
-/
import Derived.Test.YtnmjdelnllchdaaSx9
import Derived.Deep.LoopGhost
namespace Go.SX
set_option linter.unusedVariables false
set_option linter.unusedSimpArgs false
set_option linter.unusedSectionVars false
open Go Go.RowKit

/-- A state, whatever the number of blocks is. -/
def RepX (F : Fr) (st : St) (a : Act) (w : World) : Prop := Rep F { st with s := w.heap.size, k := 0 } a w

theorem Rep.x {F : Fr} {st : St} {a : Act} {w : World} (h : Rep F st a w) : RepX F st a w :=
  ⟨h.env, h.hp, h.mu, h.nd, rfl, h.kp⟩

/-- Facts on blocks, one by one. -/
def HpAll (F : Fr) (w : World) : Hp → Prop
  | [] => True
  | (b, m, o) :: r => (o.rep w b ∧ (m = true → F.B ≤ b ∨ b ∈ F.M) ∧ ∀ e ∈ r, b ≠ e.1) ∧ HpAll F w r

theorem HpAll.mem {F : Fr} {w : World} : ∀ {H : Hp}, HpAll F w H → ∀ (i b : Nat) (m : Bool) (o : SO), H[i]? = some (b, m, o) → o.rep w b ∧ (m = true → F.B ≤ b ∨ b ∈ F.M)
  | (b, m, o) :: r, h, 0, b', m', o', hi => by cases hi; exact ⟨h.1.1, h.1.2.1⟩
  | _ :: r, h, i + 1, b', m', o', hi => HpAll.mem h.2 i b' m' o' hi

theorem HpAll.nd {F : Fr} {w : World} {H : Hp} (h : HpAll F w H) : ∀ (i j : Nat) (x y : Nat × Bool × SO), H[i]? = some x → H[j]? = some y → x.1 = y.1 → i = j := by
  induction H with
  | nil => intro i j x y hi; simp at hi
  | cons e r ih =>
    obtain ⟨b, m, o⟩ := e
    intro i j x y hi hj hxy
    cases i with
    | zero => cases j with
      | zero => rfl
      | succ j =>
        simp only [List.getElem?_cons_zero, Option.some.injEq] at hi
        subst hi
        exact absurd hxy (h.1.2.2 y (List.mem_of_getElem? (by simpa using hj)))
    | succ i => cases j with
      | zero =>
        simp only [List.getElem?_cons_zero, Option.some.injEq] at hj
        subst hj
        exact absurd hxy.symm (h.1.2.2 x (List.mem_of_getElem? (by simpa using hi)))
      | succ j => rw [ih h.2 i j x y (by simpa using hi) (by simpa using hj) hxy]

theorem HpAll.memRep {F : Fr} {w : World} {H : Hp} (h : HpAll F w H) (hk : Keeps F w) : MemRep F H w.heap.size 0 w :=
  ⟨fun i b m o hi => (h.mem i b m o hi).1, fun i b o hi => (h.mem i b true o hi).2 rfl, h.nd, rfl, hk⟩

theorem MemRep.all {F : Fr} {w : World} {s k : Nat} : ∀ {H : Hp}, MemRep F H s k w → HpAll F w H
  | [], _ => trivial
  | (b, m, o) :: r, h => by
    refine ⟨⟨h.hp 0 b m o rfl, fun hm => ?_, fun e he => ?_⟩, ?_⟩
    · subst hm; exact h.mu 0 b o rfl
    · obtain ⟨j, hj⟩ := List.getElem?_of_mem he
      intro hbe
      have := h.nd 0 (j + 1) _ e rfl hj hbe
      omega
    · exact MemRep.all (H := r) ⟨fun i b m o hi => h.hp (i + 1) b m o hi, fun i b o hi => h.mu (i + 1) b o hi, fun i j x y hi hj hxy => by have := h.nd (i + 1) (j + 1) x y hi hj hxy; omega, h.sz, h.kp⟩

theorem RepX.all {F : Fr} {st : St} {a : Act} {w : World} (h : RepX F st a w) : HpAll F w st.hp := h.mem.all
theorem RepX.keeps {F : Fr} {st : St} {a : Act} {w : World} (h : RepX F st a w) : Keeps F w := h.kp

/-- The slots of one state by those of another. -/
def envTo (env : List (Nat × Nat × SV)) : List (Nat × Nat × SV) → Prop
  | [] => True
  | (t, c, x) :: r => (c = 0 ∧ match look env t with
    | some (0, y) => den y = den x
    | _ => False) ∧ envTo env r

theorem envTo_look {env : List (Nat × Nat × SV)} : ∀ {l : List (Nat × Nat × SV)}, envTo env l → ∀ t c x, look l t = some (c, x) → c = 0 ∧ ∃ y, look env t = some (0, y) ∧ den y = den x
  | (u, c', x') :: r, h, t, c, x, hl => by
    simp only [look] at hl
    split at hl
    · rename_i e
      cases hl
      have : u = t := by simpa using e
      subst this
      refine ⟨h.1.1, ?_⟩
      have h2 := h.1.2
      split at h2
      · rename_i y hy; exact ⟨y, hy, h2⟩
      · exact h2.elim
    · exact envTo_look h.2 t c x hl

theorem RepX.re {F : Fr} {st st' : St} {a : Act} {w : World} (h : RepX F st a w) (he : envTo st.env st'.env) (hh : HpAll F w st'.hp) (hn : st'.nt = st.nt) (hk : st'.ks = []) : RepX F st' a w := by
  obtain ⟨h1, h2, h3, h4⟩ := h.env
  refine Rep.of_mem ⟨h1.trans hn.symm, h2, fun t c x hx => ?_, fun r hr => ?_⟩ (hh.memRep h.kp)
  · obtain ⟨e1, y, e2, e3⟩ := envTo_look he t c x hx
    subst e1
    obtain ⟨_, b2⟩ := h3 t 0 y e2
    refine ⟨Nat.zero_le _, ?_⟩
    simp only [cnd, if_true] at b2 ⊢
    rw [b2, e3]
  · have : st'.ks = [] := hk
    rw [show ({ st' with s := w.heap.size, k := 0 } : St).ks = st'.ks from rfl, this] at hr
    cases hr

/-! ### Walking -/
theorem seg {P : Program} {C : Cfg} (htt : TTok P C.tt) (hm : P.follows .mixedOrders = true) {Q : Exit → Act → World → Prop} (hQ : PanicFree Q) {F : Fr} {k : List W} {st : St} {a : Act} {w : World}
    (n : Nat) (orc : List Bool) (gd : List (Nat × Bool)) (hr : RepX F st a w) (ht : okTop k w) (hk : okW C.dt k = true)
    (h : ∀ s, w.heap.size = s → vc C n orc [] k { st with s := s, k := 0, gd := gd } (fun k' st' => ∀ a' w', RepX F st' a' w' → okTop k' w' → post P Q k' .normal a' w')) : post P Q k .normal a w := by
  have hr' : Rep F { st with s := w.heap.size, k := 0, gd := gd } a w := ⟨⟨hr.env.1, hr.env.2.1, hr.env.2.2.1, hr.env.2.2.2⟩, hr.hp, hr.mu, hr.nd, rfl, hr.kp⟩
  exact vc_sound htt hm hQ (F := F) n orc [] k _ (fun k' st' => ∀ a' w', RepX F st' a' w' → okTop k' w' → post P Q k' .normal a' w') a w hr' ht hk (h _ rfl) (fun k' st' a' w' hK hr'' ht' => hK a' w' hr''.x ht')

/-! ### Entering -/
def env0 : Nat → List SV → List (Nat × Nat × SV)
  | _, [] => []
  | i, x :: l => (i, 0, x) :: env0 (i + 1) l

theorem look_env0 : ∀ (l : List SV) (i t c : Nat) (x : SV), look (env0 i l) t = some (c, x) → c = 0 ∧ i ≤ t ∧ l[t - i]? = some x
  | [], _, _, _, _, h => by cases h
  | y :: l, i, t, c, x, h => by
    simp only [env0, look] at h
    split at h
    · rename_i e
      cases h
      have : i = t := by simpa using e
      subst this
      exact ⟨rfl, Nat.le_refl _, by simp⟩
    · rename_i e
      have hne : ¬ i = t := by simpa using e
      obtain ⟨h1, h2, h3⟩ := look_env0 l (i + 1) t c x h
      refine ⟨h1, by omega, ?_⟩
      have : t - i = (t - (i + 1)) + 1 := by omega
      rw [this, List.getElem?_cons_succ]
      exact h3

theorem enter {P : Program} {f : FuncId} {fn : Func} {c : Code} {R : Ending → World → Prop} {F : Fr} {w : World} (hf : P.funcs[f]? = some fn) (hb : fn.body = some c) (svs : List SV) (H : Hp) (hn : svs.length ≤ fn.ntmps)
    (hH : HpAll F w H) (hk : Keeps F w) (h : ∀ a, RepX F ⟨env0 0 svs, H, 0, 0, fn.ntmps, [], [], []⟩ a w → post P (bodyPost P fn R) [.code c] .normal a w) : Calls P f (denL svs).toArray w R := by
  refine calls_of_wp hf hb (h _ (Rep.of_mem ⟨by simp [denL_length]; omega, rfl, fun t c x hx => ?_, fun r hr => by cases hr⟩ (hH.memRep hk)))
  obtain ⟨e1, _, e3⟩ := look_env0 svs 0 t c x hx
  subst e1
  simp only [Nat.sub_zero] at e3
  refine ⟨Nat.le_refl _, ?_⟩
  have hlt : t < svs.length := (List.getElem?_eq_some_iff.1 e3).1
  rw [Array.getElem?_append_left (by simp [denL_length]; exact hlt)]
  simp [denL_get?, e3, cnd]

/-! ### Loops -/
def Rnd (J : Nat → Act → World → Prop) (n : Nat) (a : Act) (w : World) : Prop := ∃ m, m < n ∧ J m a w
theorem post_loop {P : Program} {Q : Exit → Act → World → Prop} {c : Code} {k : List W} {a : Act} {w : World} (J : Nat → Act → World → Prop) (n₀ : Nat) (h₀ : J n₀ a w)
    (round : ∀ n a w, J n a w → post P Q (.code c :: .inv (Rnd J n) :: k) .normal a w) : post P Q (.code (.loop c) :: k) .normal a w := by
  show (Code.loop c).wp P (post P Q k) a w
  refine wp_loop_ghost J n₀ h₀ fun n a' w' hJ => ?_
  have := round n a' w' hJ
  refine Code.wp_mono (fun e a w q => ?_) this
  cases e <;> exact q

/-! ### Calls -/
def Callable (P : Program) (f : FuncId) : Prop := ∃ fn, P.funcs[f]? = some fn ∧ (fn.name == "runtime.NumGoroutine") = false ∧ fn.body.isNone = false

theorem run_callFunc {P : Program} {f : FuncId} (h : Callable P f) (args : Array Value) (w : World) : (callFunc f args).run P w = .ok (.enter f args) w := by
  obtain ⟨fn, h1, h2, h3⟩ := h
  simp only [callFunc, Sem.run_bind, run_program, Result.andThen_ok, h1, h2, h3, Bool.false_eq_true, if_false, Sem.run_pure]

/-- What a call is made with. -/
def evCall (st : St) (c : Nat) : Op → Option (FuncId × List SV)
  | .call { callee := .value f, args, .. } => match opd st c f, opds st c args.toList with
    | some (.fn (.func g) first cap), some l => some (g, first ++ (l ++ cap))
    | _, _ => none
  | _ => none

theorem evCall_sound {P : Program} {st : St} {c : Nat} {o : Oper} {g : FuncId} {l : List SV} {a : Act} {w : World} (he : EnvRep st a) (hc : cnd st.cs c = true) (h : evCall st c o.op = some (g, l)) (hg : Callable P g) :
    (execOp a.eval o).run P w = .ok (.enter g (denL l).toArray) w := by
  unfold evCall at h
  split at h
  · rename_i f args ats hop
    split at h
    · rename_i g' first cap l' hf hl
      cases h
      have e : args.map a.eval = (denL l').toArray := by
        apply Array.toList_inj.1
        rw [Array.toList_map]
        exact opds_sound he hc _ _ hl
      simp only [execOp, hop, resolve, e, opd_sound he hc hf, den, Deferred.ofValue, Sem.run_bind, Sem.run_pure, Result.andThen_ok, invoke, run_callFunc hg, denL_append]
      simp
    · cases h
  · cases h

/-- A call in a list of operations. -/
theorem post_call {P : Program} {Q : Exit → Act → World → Prop} {F : Fr} {st : St} {all : Array Oper} {o : Oper} {l : List Oper} {k : List W} {a : Act} {w : World} {R : Ending → World → Prop} (g : FuncId) (xs : List SV)
    (hr : RepX F st a w) (hw : Region.wanted o (yielded all a.tmps) = true) (he : evCall st 0 o.op = some (g, xs)) (hg : Callable P g) (hc : Calls P g (denL xs).toArray w R)
    (hk : ∀ e w', R e w' → ∃ v, e = .returned v ∧ post P Q (.ops all l :: k) .normal (a.put o.dst v) w') : post P Q (.ops all (o :: l) :: k) .normal a w := by
  show wpList P all (post P Q k) (o :: l) a w
  unfold wpList
  rw [if_pos hw]
  refine .inl ?_
  have e1 := evCall_sound (P := P) (w := w) (hr.env.same (st' := st) rfl rfl rfl rfl) (c := 0) rfl he hg
  simp only [Oper.wp, e1, Oper.upon]
  refine hc.mono fun e w' hR => ?_
  obtain ⟨v, rfl, h⟩ := hk e w' hR
  exact h

theorem wanted_none {o : Oper} {y : Nat → Option Bool} (h : o.guard = none) : Region.wanted o y = true := by simp [Region.wanted, h]

/-- A call in a region that draws. -/
theorem post_callD {P : Program} {Q : Exit → Act → World → Prop} {F : Fr} {st : St} {all : Array Oper} {hp0 : Hp} {o : Oper} {i : Nat} {l : List (Nat × Nat)} {k : List W} {a : Act} {w : World} {R : Ending → World → Prop} (g : FuncId) (xs : List SV)
    (hr : RepX F st a w) (hi : all[i]? = some o) (hw : Region.wanted o (yielded all a.tmps) = true) (he : evCall st 0 o.op = some (g, xs)) (hg : Callable P g) (hc : Calls P g (denL xs).toArray w R)
    (hk : ∀ e w', R e w' → ∃ v, e = .returned v ∧ HpRep hp0 w' ∧ post P Q (.opsD all hp0 l :: k) .normal (a.put o.dst v) w') : post P Q (.opsD all hp0 ((i, 1) :: l) :: k) .normal a w := by
  show wpSeqD P all (post P Q k) (HpRep hp0) (HpRep (frz hp0)) ((i, 1) :: l) a w
  simp only [wpSeqD, Nat.reduceBEq, Bool.false_eq_true, if_false, if_true]
  unfold wpOp
  simp only [hi, hw, if_true]
  refine .inl ?_
  have e1 := evCall_sound (P := P) (w := w) (hr.env.same (st' := st) rfl rfl rfl rfl) (c := 0) rfl he hg
  simp only [Oper.wp, e1, Oper.upon]
  refine hc.mono fun e w' hR => ?_
  obtain ⟨v, rfl, h1, h2⟩ := hk e w' hR
  exact ⟨h1, HpRep.frz h1, h2⟩

/-- Two ways to go on. -/
theorem post_both {P : Program} {Q : Exit → Act → World → Prop} {all : Array Oper} {hp0 : Hp} {m : Nat} {l : List (Nat × Nat)} {k : List W} {a : Act} {w : World}
    (h1 : post P Q (.opsD all hp0 (l.take m) :: k) .normal a w) (h2 : post P Q (.opsD all hp0 (l.drop m) :: k) .normal a w) : post P Q (.opsD all hp0 ((m, fork) :: l) :: k) .normal a w := by
  show wpSeqD P all (post P Q k) (HpRep hp0) (HpRep (frz hp0)) ((m, fork) :: l) a w
  unfold wpSeqD
  simp only [fork, Nat.reduceBEq, Bool.false_eq_true, if_false, if_true]
  exact ⟨h1, h2⟩

/-- What a call leaves of old memory. -/
theorem Keeps.below {F : Fr} {w w' : World} (h : Keeps F w) (hb : Below w.heap.size w w') : Keeps F w' :=
  ⟨h.hB, hb.os.trans h.os, hb.tape.trans h.tape, hb.output.trans h.output, Nat.le_trans h.size hb.size, fun k hk hm => (hb.block k (Nat.lt_of_lt_of_le hk (Nat.le_trans h.hB h.size))).trans (h.block k hk hm)⟩

theorem HpAll.below {F : Fr} {w w' : World} (hb : Below w.heap.size w w') : ∀ {H : Hp}, HpAll F w H → HpAll F w' H
  | [], _ => trivial
  | (_, _, _) :: _, h => ⟨⟨SO.rep_same h.1.1 (hb.block _ (SO.rep_lt h.1.1)), h.1.2⟩, HpAll.below hb h.2⟩

/-- The slot of a result, and new blocks: behind a call that leaves all old memory. -/
theorem RepX.ret {F : Fr} {st : St} {a : Act} {w w' : World} (h : RepX F st a w) (hb : Below w.heap.size w w') (d : Nat) (x : SV) {v : Value} (hv : v = den x) (H : Hp) (hH : HpAll F w' H) (hd : d < st.nt) (hks : st.ks.all (fun r => r.tj != d) = true) :
    RepX F { st with env := (d, 0, x) :: st.env, hp := H } (a.put (some d) v) w' := by
  subst hv
  have hp0 : putS { st with s := w.heap.size, k := 0 } (some d) 0 x = some { st with s := w.heap.size, k := 0, env := (d, 0, x) :: st.env } := by
    simp only [putS, hd, hks, decide_true, Bool.and_self, if_true]
  have hput := putS_sound h.env (Nat.zero_le _) hp0
  simp only [cnd, if_true] at hput
  exact Rep.of_mem (hput.same rfl rfl rfl rfl) (hH.memRep (h.keeps.below hb))

/-! ### The end -/
theorem bodyPost_of {P : Program} {fn : Func} {R : Ending → World → Prop} {a : Act} {w : World} {v : Value} (hd : a.defers = []) (hr : (results fn a.tmps).run P w = .ok v w) (hR : R (.returned v) w) :
    bodyPost P fn R .ret a w ∧ bodyPost P fn R .normal a w := ⟨⟨hd, v, hr, hR⟩, ⟨hd, v, hr, hR⟩⟩

def lookD (env : List (Nat × Nat × SV)) (t : Nat) : Option SV :=
  match look env t with
  | some (0, x) => some x
  | _ => none

theorem RepX.slot {F : Fr} {st : St} {a : Act} {w : World} (h : RepX F st a w) {t : Nat} {x : SV} (hl : lookD st.env t = some x) : a.tmps.getD t undef = den x := by
  unfold lookD at hl
  split at hl
  · rename_i y hy
    cases hl
    have := (h.env.2.2.1 t 0 x hy).2
    simp only [cnd, if_true] at this
    simp [Array.getD_eq_getD_getElem?, this]
  · cases hl

theorem end0 {P : Program} {fn : Func} {R : Ending → World → Prop} {F : Fr} {st : St} {a : Act} {w : World} (hr : RepX F st a w) (hres : fn.results = #[]) (hR : R (.returned (.tuple #[])) w) :
    bodyPost P fn R .ret a w ∧ bodyPost P fn R .normal a w := bodyPost_of hr.env.2.1 (results_none hres _ _ _) hR
theorem end1 {P : Program} {fn : Func} {R : Ending → World → Prop} {F : Fr} {st : St} {a : Act} {w : World} (hr : RepX F st a w) {t : Nat} (hres : fn.results = #[.tmp t]) {x : SV} (hl : lookD st.env t = some x) (hR : R (.returned (den x)) w) :
    bodyPost P fn R .ret a w ∧ bodyPost P fn R .normal a w := bodyPost_of hr.env.2.1 (results_tmp hres _ _ _) (by rw [hr.slot hl]; exact hR)
theorem end2 {P : Program} {fn : Func} {R : Ending → World → Prop} {F : Fr} {st : St} {a : Act} {w : World} (hr : RepX F st a w) {t u : Nat} (hres : fn.results = #[.tmp t, .tmp u]) {x y : SV} (hl : lookD st.env t = some x) (hl2 : lookD st.env u = some y)
    (hR : R (.returned (.tuple #[den x, den y])) w) : bodyPost P fn R .ret a w ∧ bodyPost P fn R .normal a w := bodyPost_of hr.env.2.1 (results_tmp2 hres _ _ _) (by rw [hr.slot hl, hr.slot hl2]; exact hR)
theorem end3 {P : Program} {fn : Func} {R : Ending → World → Prop} {F : Fr} {st : St} {a : Act} {w : World} (hr : RepX F st a w) {t u s : Nat} (hres : fn.results = #[.tmp t, .tmp u, .tmp s]) {x y z : SV} (hl : lookD st.env t = some x) (hl2 : lookD st.env u = some y) (hl3 : lookD st.env s = some z)
    (hR : R (.returned (.tuple #[den x, den y, den z])) w) : bodyPost P fn R .ret a w ∧ bodyPost P fn R .normal a w := bodyPost_of hr.env.2.1 (by simp [results, hres]; rfl) (by
      have e1 := hr.slot hl
      have e2 := hr.slot hl2
      have e3 := hr.slot hl3
      simp only [Array.getD_eq_getD_getElem?] at e1 e2 e3
      simp only [e1, e2, e3]; exact hR)

theorem post_inv {P : Program} {Q : Exit → Act → World → Prop} {I : Act → World → Prop} {k : List W} {a : Act} {w : World} (h : I a w) : post P Q (.inv I :: k) .normal a w := h
theorem post_rnd {P : Program} {Q : Exit → Act → World → Prop} {J : Nat → Act → World → Prop} {n : Nat} {k : List W} {a : Act} {w : World} (m : Nat) (hm : m < n) (h : J m a w) : post P Q (.inv (Rnd J n) :: k) .normal a w := ⟨m, hm, h⟩
theorem post_retn {P : Program} {Q : Exit → Act → World → Prop} {k : List W} {a : Act} {w : World} (h : Q .ret a w) : post P Q (.retn :: k) .normal a w := h
theorem post_nil {P : Program} {Q : Exit → Act → World → Prop} {a : Act} {w : World} (h : Q .normal a w) : post P Q [] .normal a w := h

/-- The frame of a function that leaves all old memory. -/
def frame0 (w : World) : Fr := ⟨w, w.heap.size, []⟩
theorem keeps0 (w : World) : Keeps (frame0 w) w := ⟨Nat.le_refl _, rfl, rfl, rfl, Nat.le_refl _, fun _ _ _ => rfl⟩
theorem Keeps.toBelow {w w' : World} (h : Keeps (frame0 w) w') : Below w.heap.size w w' := ⟨h.os, h.tape, h.output, h.size, fun k hk => h.block k hk (by simp [frame0])⟩

end Go.SX
