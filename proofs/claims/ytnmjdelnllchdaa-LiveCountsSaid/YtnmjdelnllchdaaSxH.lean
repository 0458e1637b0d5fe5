/-
  A region whose operations may come in any order: an invariant over what has come. Holds for every program.
-/
import Derived.Test.YtnmjdelnllchdaaSxC
namespace Go.SX
set_option linter.unusedVariables false
set_option linter.unusedSimpArgs false
set_option linter.unusedSectionVars false
open Go Go.RowKit

theorem upon_put {P : Program} {o : Oper} {a : Act} {K : Act → World → Prop} {Q : Exit → Act → World → Prop} {r : Result Next}
    (h : o.upon P a (fun a' w' => (∃ v, a'.tmps = (a.put o.dst v).tmps) → K a' w') Q r) : o.upon P a K Q r := by
  unfold Oper.upon at *
  split at h
  · exact h ⟨_, rfl⟩
  · exact h ⟨_, rfl⟩
  · refine h ⟨undef, ?_⟩
    unfold Act.put
    split <;> rfl
  · refine h.mono fun e w' h' => ?_
    split at h'
    · exact h' ⟨_, rfl⟩
    · exact h'
    · exact h'
  · refine h.mono fun v w' h' => h' ⟨_, rfl⟩
  · exact h
  · exact h

theorem upon_Q {P : Program} {o : Oper} {a : Act} {K : Act → World → Prop} {Q Q' : Exit → Act → World → Prop} {r : Result Next} (hp : ∀ c a w, Q' (.panic c) a w → Q (.panic c) a w) (ho : LetsOut Q' → LetsOut Q)
    (h : o.upon P a K Q' r) : o.upon P a K Q r := by
  unfold Oper.upon at *
  split at h
  · exact h
  · exact h
  · exact h
  · refine h.mono fun e w' h' => ?_
    split at h'
    · exact h'
    · exact hp _ _ _ h'
    · exact ho h'
  · exact h
  · exact hp _ _ _ h
  · exact h

theorem any_inv {P : Program} {ops : Array Oper} {Q : Exit → Act → World → Prop} (I : Array Bool → Act → World → Prop)
    (hstep : ∀ (listed : Array Bool) (i : Nat) (o : Oper) (a : Act) (w : World), ops[i]? = some o → listed.size = ops.size → listed.getD i true = false → (∀ e ∈ o.after, Region.binds .any e = true → listed.getD e.on false = true) → I listed a w →
      wpOp P ops Q i (fun a' w' => I (listed.setIfInBounds i true) a' w') a w)
    (hend : ∀ (listed : Array Bool) (a : Act) (w : World), listed.size = ops.size → (∀ j, j < ops.size → listed.getD j false = true) → I listed a w → Q .normal a w) (hcl : ∀ i o, ops[i]? = some o → ∀ e ∈ o.after, Region.binds .any e = true → e.on < i) :
    ∀ (fuel : Nat) (listed : Array Bool) (a : Act) (w : World), listed.size = ops.size → (listed.toList.filter (fun x => !x)).length ≤ fuel → I listed a w → wpAny P .any ops Q fuel listed a w := by
  have hall : ∀ listed : Array Bool, listed.size = ops.size → Region.ready .any ops listed = [] → ∀ j, j < ops.size → listed.getD j false = true := by
    intro listed hs hr j
    induction j using Nat.strongRecOn with
    | _ j ih =>
      intro hj
      cases hl : listed.getD j false with
      | true => rfl
      | false =>
        have hm : j ∈ Region.ready .any ops listed := mem_ready.2 ⟨by
          have : j < listed.size := by omega
          simp [this] at hl ⊢
          exact hl, ops[j], Array.getElem?_eq_getElem hj, fun e he hb => ih e.on (hcl j _ (Array.getElem?_eq_getElem hj) e he hb) (by
            have := hcl j _ (Array.getElem?_eq_getElem hj) e he hb
            omega)⟩
        rw [hr] at hm
        cases hm
  intro fuel
  induction fuel with
  | zero =>
    intro listed a w hs hf hI
    have hr : Region.ready .any ops listed = [] := by
      rw [List.eq_nil_iff_forall_not_mem]
      intro j hj
      have h1 := (mem_ready.1 hj).1
      have h2 : listed.toList.filter (fun x => !x) = [] := List.eq_nil_of_length_eq_zero (by omega)
      rw [List.filter_eq_nil_iff] at h2
      rcases Nat.lt_or_ge j listed.size with h3 | h3
      · simp [h3] at h1
        have := h2 listed[j] (by simp)
        rw [h1] at this
        simp at this
      · simp [Array.getElem?_eq_none h3] at h1
    exact ⟨hr, hend listed a w hs (hall listed hs hr) hI⟩
  | succ fuel ih =>
    intro listed a w hs hf hI
    refine ⟨fun hr => hend listed a w hs (hall listed hs hr) hI, fun i hi => ?_⟩
    obtain ⟨h1, o, ho, h2⟩ := mem_ready.1 hi
    refine wpOp_mono (fun a' w' h' => ih _ a' w' (by simpa using hs) ?_ h') (hstep listed i o a w ho hs h1 h2 hI)
    have hlt : i < listed.size := by
      rcases Nat.lt_or_ge i listed.size with h3 | h3
      · exact h3
      · simp [Array.getElem?_eq_none h3] at h1
    have hv : listed[i] = false := by simpa [hlt] using h1
    have : ∀ (l : List Bool) (i : Nat) (h : i < l.length), l[i] = false → ((l.set i true).filter (fun x => !x)).length + 1 = (l.filter (fun x => !x)).length := by
      intro l
      induction l with
      | nil => intro i h; simp at h
      | cons x r ihl =>
        intro i h hx
        cases i with
        | zero => simp at hx; simp [hx]
        | succ i =>
          have := ihl i (by simpa using h) (by simpa using hx)
          cases x <;> simp at this ⊢ <;> omega
    have h4 := this listed.toList i (by simpa using hlt) (by simpa using hv)
    simp only [Array.toList_setIfInBounds]
    omega

/-- A region in any order. -/
theorem post_any {P : Program} {Q : Exit → Act → World → Prop} {id : Nat} {ops : Array Oper} {k : List W} {a : Act} {w : World} (hm : P.follows .mixedOrders = true) (I : Array Bool → Act → World → Prop)
    (hcl : ((List.range ops.size).all fun i => match ops[i]? with | some o => o.after.all fun e => decide (e.on < i) | none => true) = true)
    (h0 : I (Array.replicate ops.size false) a { w with drawn := w.drawn + 1 })
    (hstep : ∀ (listed : Array Bool) (i : Nat) (o : Oper) (a : Act) (w : World), ops[i]? = some o → listed.size = ops.size → listed.getD i true = false → (∀ e ∈ o.after, Region.binds .any e = true → listed.getD e.on false = true) → I listed a w →
      post P Q (.ops ops [o] :: .inv (fun a' w' => (∃ v, a'.tmps = (a.put o.dst v).tmps) → I (listed.setIfInBounds i true) a' w') :: k) .normal a w)
    (hend : ∀ (listed : Array Bool) (a : Act) (w : World), listed.size = ops.size → (∀ j, j < ops.size → listed.getD j false = true) → I listed a w → post P Q k .normal a w) :
    post P Q (.code (.region id ops true) :: k) .normal a w := by
  show (Code.region id ops true).wp P (post P Q k) a w
  refine wp_region_any hm (any_inv I ?_ hend ?_ ops.size _ a _ (by simp) (by
    refine Nat.le_trans (List.length_filter_le _ _) (by simp)) h0)
  · intro listed i o a w ho hs hl hd hI
    have h := hstep listed i o a w ho hs hl hd hI
    have h' : wpList P ops (post P Q (.inv (fun a' w' => (∃ v, a'.tmps = (a.put o.dst v).tmps) → I (listed.setIfInBounds i true) a' w') :: k)) [o] a w := h
    unfold wpOp
    simp only [ho]
    unfold wpList at h'
    have hp : ∀ (J : Act → World → Prop) c a w, post P Q (.inv J :: k) (.panic c) a w → post P Q k (.panic c) a w := fun _ _ _ _ h => h
    have ho : ∀ (J : Act → World → Prop), LetsOut (post P Q (.inv J :: k)) → LetsOut (post P Q k) := fun _ h => h
    split at h'
    · rename_i hw
      rw [if_pos hw]
      rcases h' with h' | ⟨h1, h2⟩
      · exact .inl (upon_put (upon_Q (hp _) (ho _) h'))
      · exact .inr ⟨h1, ho _ h2⟩
    · rename_i hw
      rw [if_neg hw]
      exact h' ⟨undef, rfl⟩
  · intro i o ho e he hb
    rw [List.all_eq_true] at hcl
    have h1 := hcl i (List.mem_range.2 (Array.getElem?_eq_some_iff.1 ho).1)
    simp only [ho, Array.all_eq_true] at h1
    obtain ⟨j, hj, rfl⟩ := Array.getElem_of_mem he
    simpa using h1 j hj
end Go.SX
