/- Live: slices.SortFunc of extents. -/
import Derived.Test.YtnmjdelnllchdaaDVc
import Derived.Test.YtnmjdelnllchdaaDVt
import Derived.Shelf.SlSortCmp.NoneTotal
namespace Go.Proofs
set_option linter.unusedVariables false
set_option linter.unusedSimpArgs false
set_option linter.unusedSectionVars false
open Go Go.SX Go.RowKit Go.Sort

def SortR (P : Nat → Prop) (w : World) (v : Value) (L : List Ext) (e : Ending) (w' : World) : Prop := ∃ L' B, e = .returned (.tuple #[]) ∧ L'.Perm L ∧ SrtE L' ∧ OwE P w' v L' ∧ (∀ b ∈ B, P b ∧ b < w.heap.size) ∧ KeepsTo w B w'

theorem sort_ok {P : Nat → Prop} (w : World) (v : Value) (L : List Ext) (hO : OwE P w v L) (hn : L.length ≤ 1000000) : Calls Try.prog 35 (denL [.v v, .fn (.func 36) [] []]).toArray w (SortR P w v L) := by
  rcases hO with ⟨rfl, ad, rfl⟩ | ⟨b, N, cap, u, row, hP, rfl, h0, hc, hN, hrep, hrow⟩
  · have hcon := AnyF.slices_SortFunc_none Try.sortE ad 0 (.func (.func 36) #[] #[]) w
    change Calls Try.prog 35 _ _ _ at hcon
    refine hcon.mono ?_
    rintro e w' ⟨rfl, rfl⟩
    exact ⟨[], [], rfl, List.Perm.refl _, fun i j _ h => by simp at h, .inl ⟨rfl, ad, rfl⟩, by simp, KeepsTo.refl _ _⟩
  · have hcmp : CmpLays Try.prog 36 #[] encX 5 cfX b 0 L.toArray.size w := fun _ _ _ _ x y => closure36 (tE x) (tE y) _
    have hb : b < w.heap.size := SO.rep_lt hrep
    have eg : ∀ args w, (callFunc 36 args).run Try.prog w = .ok (.enter 36 args) w := enters_of Try.func36 (by kernel_rfl) rfl
    have hcon := AnyQ.slices_SortFunc Try.sortE 5 Try.isAgg51 Try.sizeOf51 encX (fun _ => rfl) (fun x v hv => by
      simp only [encX, extC, denL, den, List.map_cons, List.map_nil, List.mem_cons, List.not_mem_nil, or_false] at hv
      rcases hv with rfl | rfl | rfl | rfl | rfl <;> rfl) cfX swoX 36 #[] b 0 cap L.toArray w eg hcmp (holdsX hrep (by omega) hrow) hb (by rw [List.size_toArray]; omega)
    change Calls Try.prog 35 _ _ _ at hcon
    rw [List.size_toArray] at hcon
    refine hcon.mono ?_
    rintro e w' ⟨rfl, d, n, os, hp, hs, rfl⟩
    rw [← List.size_toArray] at hp
    obtain ⟨h1, h2⟩ := perm_in hp
    refine ⟨d.toList, [b], rfl, h2, srt_in h1 hs, ?_, by simp [hP, hb], sortW_keeps⟩
    have hl : d.toList.length = L.length := by simpa using h1
    refine .inr ⟨b, N, cap, u, _, hP, by rw [hl], h0, by omega, hN, sortW_rep hrep (by omega), fun j hj => ?_⟩
    have hj' : j < d.size := by simpa using hj
    rw [if_pos hj', ← toArr_get hj]
end Go.Proofs
