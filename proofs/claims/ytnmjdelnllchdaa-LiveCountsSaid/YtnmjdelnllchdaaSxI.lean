/-
  The end of a function whose results lie in cells. Holds for every program.
-/
import Derived.Test.YtnmjdelnllchdaaSxC
namespace Go.SX
set_option linter.unusedVariables false
set_option linter.unusedSimpArgs false
set_option linter.unusedSectionVars false
open Go Go.RowKit

/-- What a result's variable holds. -/
theorem RepX.cellResult {P : Program} {F : Fr} {st : St} {a : Act} {w : World} (hr : RepX F st a w) {t ty i b u : Nat} {m : Bool} {l : List SV} {ti : TI} (hl : lookD st.env t = some (.ptr i b 0)) (hi : st.hp[i]? = some (b, m, .cells l u)) (ht : ti.ok P ty) {x : SV}
    (hs : shapeUp ti.d.isAgg ti.sz l = some x) : (asAddr (a.tmps[t]?.getD undef)).run P w = .ok ⟨b, 0, none⟩ w ∧ (loadVar ty ⟨b, 0, none⟩).run P w = .ok (den x) w := by
  have h0 := hr.slot hl
  simp only [Array.getD_eq_getD_getElem?] at h0
  rw [h0]
  have hb : w.heap[b]? = some (.cells (denL l).toArray u (0, 0)) := hr.hp i b m _ hi
  have h1 : (loadVar ty ⟨b, 0, none⟩).run P w = .ok (den x) w := run_loadVar ht hs fun j hj => by
    simp [World.cell?, hb]
  exact ⟨by simp [den, asAddr], h1⟩

theorem endC1 {P : Program} {fn : Func} {R : Ending → World → Prop} {F : Fr} {st : St} {a : Act} {w : World} (hr : RepX F st a w) {t ty : Nat} (hres : fn.results = #[.cell t ty]) {i b u : Nat} {m : Bool} {l : List SV} {ti : TI} (hl : lookD st.env t = some (.ptr i b 0)) (hi : st.hp[i]? = some (b, m, .cells l u)) (ht : ti.ok P ty) {x : SV}
    (hs : shapeUp ti.d.isAgg ti.sz l = some x) (hR : R (.returned (den x)) w) : bodyPost P fn R .ret a w ∧ bodyPost P fn R .normal a w := by
  have h1 := hr.cellResult hl hi ht hs
  refine bodyPost_of hr.env.2.1 (v := den x) ?_ hR
  simp [results, hres, h1.1, h1.2]

theorem endC2 {P : Program} {fn : Func} {R : Ending → World → Prop} {F : Fr} {st : St} {a : Act} {w : World} (hr : RepX F st a w) {t ty v : Nat} (hres : fn.results = #[.cell t ty, .tmp v]) {i b u : Nat} {m : Bool} {l : List SV} {ti : TI} (hl : lookD st.env t = some (.ptr i b 0)) (hi : st.hp[i]? = some (b, m, .cells l u)) (ht : ti.ok P ty) {x y : SV}
    (hs : shapeUp ti.d.isAgg ti.sz l = some x) (hv : lookD st.env v = some y) (hR : R (.returned (.tuple #[den x, den y])) w) : bodyPost P fn R .ret a w ∧ bodyPost P fn R .normal a w := by
  have h1 := hr.cellResult hl hi ht hs
  have h2 := hr.slot hv
  refine bodyPost_of hr.env.2.1 (v := .tuple #[den x, den y]) ?_ hR
  simp only [Array.getD_eq_getD_getElem?] at h2
  simp [results, hres, h1.1, h1.2, h2]

theorem endC3 {P : Program} {fn : Func} {R : Ending → World → Prop} {F : Fr} {st : St} {a : Act} {w : World} (hr : RepX F st a w) {t ty t' ty' v : Nat} (hres : fn.results = #[.cell t ty, .cell t' ty', .tmp v]) {i b u i' b' u' : Nat} {m m' : Bool} {l l' : List SV} {ti ti' : TI} (hl : lookD st.env t = some (.ptr i b 0)) (hi : st.hp[i]? = some (b, m, .cells l u)) (ht : ti.ok P ty)
    (hl' : lookD st.env t' = some (.ptr i' b' 0)) (hi' : st.hp[i']? = some (b', m', .cells l' u')) (ht' : ti'.ok P ty') {x x' y : SV}
    (hs : shapeUp ti.d.isAgg ti.sz l = some x) (hs' : shapeUp ti'.d.isAgg ti'.sz l' = some x') (hv : lookD st.env v = some y) (hR : R (.returned (.tuple #[den x, den x', den y])) w) : bodyPost P fn R .ret a w ∧ bodyPost P fn R .normal a w := by
  have h1 := hr.cellResult hl hi ht hs
  have h1' := hr.cellResult hl' hi' ht' hs'
  have h2 := hr.slot hv
  refine bodyPost_of hr.env.2.1 (v := .tuple #[den x, den x', den y]) ?_ hR
  simp only [Array.getD_eq_getD_getElem?] at h2
  simp [results, hres, h1.1, h1.2, h1'.1, h1'.2, h2]

theorem endC4 {P : Program} {fn : Func} {R : Ending → World → Prop} {F : Fr} {st : St} {a : Act} {w : World} (hr : RepX F st a w) {t ty t' ty' v z : Nat} (hres : fn.results = #[.cell t ty, .cell t' ty', .tmp v, .tmp z]) {i b u i' b' u' : Nat} {m m' : Bool} {l l' : List SV} {ti ti' : TI} (hl : lookD st.env t = some (.ptr i b 0)) (hi : st.hp[i]? = some (b, m, .cells l u)) (ht : ti.ok P ty)
    (hl' : lookD st.env t' = some (.ptr i' b' 0)) (hi' : st.hp[i']? = some (b', m', .cells l' u')) (ht' : ti'.ok P ty') {x x' y q : SV}
    (hs : shapeUp ti.d.isAgg ti.sz l = some x) (hs' : shapeUp ti'.d.isAgg ti'.sz l' = some x') (hv : lookD st.env v = some y) (hz : lookD st.env z = some q) (hR : R (.returned (.tuple #[den x, den x', den y, den q])) w) : bodyPost P fn R .ret a w ∧ bodyPost P fn R .normal a w := by
  have h1 := hr.cellResult hl hi ht hs
  have h1' := hr.cellResult hl' hi' ht' hs'
  have h2 := hr.slot hv
  have h3 := hr.slot hz
  refine bodyPost_of hr.env.2.1 (v := .tuple #[den x, den x', den y, den q]) ?_ hR
  simp only [Array.getD_eq_getD_getElem?] at h2 h3
  simp [results, hres, h1.1, h1.2, h1'.1, h1'.2, h2, h3]

/-! ### For the walk's simp: what a step yields is brought to its plain form before the walk goes on -/
theorem contS_some (r : Rec) (obs : List Prop) (st' : St) (orc : List Bool) (acc : List Prop) (k' k : List W) (st : St) (K : List W → St → Prop) : contS r (some (obs, st')) orc acc k' k st K = r orc (acc ++ obs) k' st' K := rfl
theorem contS_none (r : Rec) (orc : List Bool) (acc : List Prop) (k' k : List W) (st : St) (K : List W → St → Prop) : contS r none orc acc k' k st K = stop acc k st K := rfl
end Go.SX
