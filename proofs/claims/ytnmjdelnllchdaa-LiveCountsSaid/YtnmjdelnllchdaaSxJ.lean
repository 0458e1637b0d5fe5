/-
  Slots of a region whose operations may come in any order (with SxH). Holds for every program.
-/
import Derived.Test.YtnmjdelnllchdaaSxH
namespace Go.SX
set_option linter.unusedVariables false
set_option linter.unusedSimpArgs false
set_option linter.unusedSectionVars false
open Go Go.RowKit

/-! ### Slots, in any order -/
theorem look_map : ∀ (l : List (Nat × SV)) (t c : Nat) (x : SV), SX.look (l.map fun e => (e.1, 0, e.2)) t = some (c, x) → c = 0 ∧ (t, x) ∈ l
  | [], _, _, _, h => by simp [SX.look] at h
  | (t', y) :: r, t, c, x, h => by
    simp only [List.map_cons, SX.look] at h
    split at h
    · rename_i he
      simp only [Option.some.injEq, Prod.mk.injEq] at h
      obtain ⟨rfl, rfl⟩ := h
      have : t' = t := by simpa using he
      exact ⟨rfl, by simp [this]⟩
    · obtain ⟨h1, h2⟩ := look_map r t c x h
      exact ⟨h1, by simp [h2]⟩

theorem mk0 {w : World} {a : Act} {nt : Nat} {M : List Nat} (hs : a.tmps.size = nt) (hd : a.defers = []) (l : List (Nat × SV)) (H : Hp) (hH : HpAll ⟨w, w.heap.size, M⟩ w H) (h : ∀ e ∈ l, a.tmps[e.1]? = some (den e.2)) :
    RepX ⟨w, w.heap.size, M⟩ ⟨l.map fun e => (e.1, 0, e.2), H, w.heap.size, 0, nt, [], [], []⟩ a w := by
  refine Rep.of_mem ⟨hs, hd, fun t c x hx => ?_, fun r hr => by cases hr⟩ (hH.memRep (KeepsTo.refl w M))
  obtain ⟨rfl, hm⟩ := look_map l t c x hx
  exact ⟨Nat.zero_le _, by simpa [cnd] using h _ hm⟩

theorem post_stepG {P : Program} {Q : Exit → Act → World → Prop} {all : Array Oper} {o : Oper} {l : List Oper} {k : List W} {a : Act} {w w' : World} {v : Value} (hw : Region.wanted o (yielded all a.tmps) = true) (he : (execOp a.eval o).run P w = .ok (.value v) w')
    (hk : post P Q (.ops all l :: k) .normal (a.put o.dst v) w') : post P Q (.ops all (o :: l) :: k) .normal a w := by
  show wpList P all (post P Q k) (o :: l) a w
  unfold wpList
  rw [if_pos hw]
  refine .inl ?_
  simp only [Oper.wp, he, Oper.upon]
  exact hk

theorem putAt {a : Act} {d : Nat} {v : Value} (h : d < a.tmps.size) : (a.put (some d) v).tmps[d]? = some v := by simp [Act.put, h]

theorem want47 {all : Array Oper} {a : Act} {o : Oper} {j tj : Nat} (hg : o.guard = some (j, true)) (hj : (all[j]?).bind (·.dst) = some tj) (ht : a.tmps[tj]? = some (.bool true)) : Region.wanted o (yielded all a.tmps) = true :=
  (wanted_eq all a o (C := true) (B := true) hg hj ht).trans rfl

theorem slotOf {F : Fr} {st : St} {a : Act} {w : World} (h : RepX F st a w) {d : Nat} {x : SV} (hl : SX.look st.env d = some (0, x)) : a.tmps[d]? = some (den x) := by
  have := (h.env.2.2.1 d 0 x hl).2
  simpa [cnd] using this


/-- What holds when some of a region's operations have come: 'T' tells each operation's slot, and what its value is like; 'fix' are the slots that came in; 'R' is what memory keeps. -/
structure Slots (R : World → World → Prop) (wR : World) (nt : Nat) (T : List (Nat × (Value → World → Prop))) (fix : List (Nat × Value)) (listed : Array Bool) (a : Act) (w : World) : Prop where
  size : a.tmps.size = nt
  defs : a.defers = []
  kp : R wR w
  live : ∀ e ∈ fix, a.tmps[e.1]? = some e.2
  sp : ∀ j d p, T[j]? = some (d, p) → listed.getD j false = true → ∃ x, a.tmps[d]? = some x ∧ p x w

theorem Slots.put {R : World → World → Prop} {wR : World} {nt : Nat} {T : List (Nat × (Value → World → Prop))} {fix : List (Nat × Value)} {listed : Array Bool} {a a' : Act} {w w' : World} (hI : Slots R wR nt T fix listed a w)
    (hTn : (T.map (·.1)).Nodup) (hTf : ∀ e ∈ fix, ∀ t ∈ T, e.1 ≠ t.1) (hTm : ∀ t ∈ T, ∀ (x : Value), t.2 x w → t.2 x w') (hR : R wR w')
    {i d : Nat} {p : Value → World → Prop} (hi : T[i]? = some (d, p)) {v x : Value} (ha : a'.tmps = (a.put (some d) v).tmps) (hd : a'.defers = []) (hx : a'.tmps[d]? = some x) (hp : p x w') :
    Slots R wR nt T fix (listed.setIfInBounds i true) a' w' := by
  have hput : ∀ t, t ≠ d → a'.tmps[t]? = a.tmps[t]? := by
    intro t ht
    rw [ha]
    simp only [Act.put]
    rw [Array.getElem?_setIfInBounds, if_neg (Ne.symm ht)]
  have hTd : ∀ j d' p', T[j]? = some (d', p') → j ≠ i → d' ≠ d := by
    intro j d' p' hj hji e
    subst e
    have h1 : (T.map (·.1))[j]? = some d' := by rw [List.getElem?_map, hj]; rfl
    have h2 : (T.map (·.1))[i]? = some d' := by rw [List.getElem?_map, hi]; rfl
    have hlt : j < (T.map (·.1)).length := (List.getElem?_eq_some_iff.1 h1).1
    exact hji ((List.getElem?_inj hlt hTn).1 (h1.trans h2.symm))
  refine ⟨?_, hd, hR, fun e he => ?_, fun j d' p' hj hl => ?_⟩
  · rw [ha]
    simp only [Act.put, Array.size_setIfInBounds]
    exact hI.size
  · rw [hput _ (hTf e he _ (List.mem_of_getElem? hi))]
    exact hI.live e he
  · by_cases hji : j = i
    · subst hji
      rw [hi] at hj
      cases hj
      exact ⟨x, hx, hp⟩
    · have hl' : listed.getD j false = true := by
        rwa [getD_set_ne false (Ne.symm hji)] at hl
      obtain ⟨y, h1, h2⟩ := hI.sp j d' p' hj hl'
      exact ⟨y, by rw [hput _ (hTd j d' p' hj hji)]; exact h1, hTm _ (List.mem_of_getElem? hj) _ h2⟩
end Go.SX
