/- Live: extents sorted in a row: the shelf's worlds as the executor has them. -/
import Derived.Test.YtnmjdelnllchdaaDVb
import Derived.Test.YtnmjdelnllchdaaDF
import Derived.Shelf.GgSortFunc.InsertionK
import Derived.Shelf.SlSortCmp.Insertion
namespace Go.Proofs
set_option linter.unusedVariables false
set_option linter.unusedSimpArgs false
set_option linter.unusedSectionVars false
open Go Go.SX Go.RowKit Go.Sort

instance : Inhabited Ext := ⟨ext0⟩
def encX (e : Ext) : List Value := denL (extC e)
def tE (e : Ext) : Int × Int × Int × Int × Int := (e.lba, e.n, e.ver, e.zone, e.off)
theorem encX_eq (e : Ext) : encX e = encE (tE e) := rfl
def cfX (x y : Ext) : Int := cfE (tE x) (tE y)
/-- The order of extents: by off, then by lba. -/
def LeE (x y : Ext) : Prop := x.off < y.off ∨ (x.off = y.off ∧ x.lba ≤ y.lba)
theorem cfX_neg (x y : Ext) : cfX x y < 0 ↔ x.off < y.off ∨ (x.off = y.off ∧ x.lba < y.lba) := by
  unfold cfX cfE orI tE Lib.compareInt
  dsimp only
  split <;> split <;> (try split) <;> (try split) <;> omega
theorem ltX (x y : Ext) : ltOf cfX x y = decide (x.off < y.off ∨ (x.off = y.off ∧ x.lba < y.lba)) := by
  unfold ltOf
  simp only [cfX_neg]
theorem swoX : SWO (ltOf cfX) := by
  refine ⟨fun x => ?_, fun x y z => ?_, fun x y z => ?_⟩
  · simp only [ltX, decide_eq_false_iff_not]; omega
  · simp only [ltX, decide_eq_true_eq]; omega
  · simp only [ltX, decide_eq_false_iff_not]; omega

theorem toArr_get {L : List Ext} {j : Nat} (h : j < L.length) : L.toArray[j]! = nth ext0 L j := by
  unfold nth
  simp [h]

theorem holdsX {w : World} {blk N : Nat} {row : Nat → List SV} {u : TypeId} {L : List Ext} (h : (SO.arr 0 N row 5 u (0, 0)).rep w blk) (hN : L.length ≤ N) (hr : ∀ j, j < L.length → row j = extC (nth ext0 L j)) : HoldsK encX 5 w blk 0 L.toArray := by
  obtain ⟨c, hc, hsz, hrow⟩ := h
  intro t ht
  rw [size_flatK] at ht
  have ht' : t < L.length * 5 := by simpa using ht
  have hj : t / 5 < L.length := by omega
  obtain ⟨hl, hg⟩ := hrow (t / 5) (by omega)
  have hs : t % 5 < 5 := Nat.mod_lt _ (by omega)
  have hv := hg (t % 5) hs
  have e : 0 + (t / 5 * 5 + t % 5) = 0 + t := by omega
  rw [e] at hv
  constructor
  · rw [get_flatK _ _ _ _ ht, toArr_get hj]
    rw [cell_of hc, hv, hr _ hj]
    show (encX _)[t % 5]? = some (encX _)[t % 5]!
    have hlen : (encX (nth ext0 L (t / 5))).length = 5 := rfl
    rw [List.getElem?_eq_getElem (by omega), getElem!_pos _ _ (by omega)]
  · simp only [World.frozen?, hc]
    simp

theorem sortW_keeps {w : World} {blk n : Nat} {d : Array Ext} {os : Array Obj} : KeepsTo w [blk] (sortWorldK encX 5 w blk 0 n d os) := by
  refine ⟨Nat.le_refl _, rfl, rfl, rfl, ?_, fun k hk hm => ?_⟩
  · show w.heap.size ≤ ((w.heap.modify blk _) ++ os).size
    simp
  · show ((w.heap.modify blk _) ++ os)[k]? = _
    have hne : ¬ blk = k := fun e => hm (by simp [e])
    have hk' : k < w.heap.size := hk
    rw [Array.getElem?_append_left (by simpa using hk'), Array.getElem?_modify, if_neg hne]

theorem sortW_rep {w : World} {blk N n : Nat} {row : Nat → List SV} {u : TypeId} {d : Array Ext} {os : Array Obj} (h : (SO.arr 0 N row 5 u (0, 0)).rep w blk) (hN : d.size ≤ N) :
    (SO.arr 0 N (fun j => if j < d.size then extC d[j]! else row j) 5 u (0, 0)).rep (sortWorldK encX 5 w blk 0 n d os) blk := by
  obtain ⟨c, hc, hsz, hrow⟩ := h
  refine ⟨putCells id 0 (flatK encX 5 d) c, ?_, ?_, ?_⟩
  · show ((w.heap.modify blk _) ++ os)[blk]? = _
    have hk' : blk < w.heap.size := lt_of_heap hc
    rw [Array.getElem?_append_left (by simpa using hk'), Array.getElem?_modify, if_pos rfl, hc]
    rfl
  · simp only [putCells, Array.size_mapIdx]; exact hsz
  · intro j hj
    obtain ⟨hl, hg⟩ := hrow j hj
    by_cases hd : j < d.size
    · dsimp only
      rw [if_pos hd]
      refine ⟨rfl, fun s hs => ?_⟩
      have hv := hg s hs
      have hlt : s < (denL (row j)).length := by rw [denL_length]; omega
      rw [List.getElem?_eq_getElem hlt] at hv
      simp only [putCells, Array.getElem?_mapIdx, hv, Option.map_some, size_flatK]
      rw [if_pos (by omega), Nat.sub_zero, Nat.zero_add, get_flatK _ _ _ _ (by omega)]
      have e1 : (j * 5 + s) / 5 = j := by omega
      have e2 : (j * 5 + s) % 5 = s := by omega
      rw [e1, e2]
      show _ = (encX d[j]!)[s]?
      have hlen : (encX d[j]!).length = 5 := rfl
      rw [List.getElem?_eq_getElem (by omega), getElem!_pos _ _ (by omega)]
      rfl
    · dsimp only
      rw [if_neg hd]
      refine ⟨hl, fun s hs => ?_⟩
      have hv := hg s hs
      have hlt : s < (denL (row j)).length := by rw [denL_length]; omega
      rw [List.getElem?_eq_getElem hlt] at hv ⊢
      simp only [putCells, Array.getElem?_mapIdx, hv, Option.map_some, size_flatK]
      rw [if_neg (by omega)]

/-- Sorted. -/
def SrtE (L : List Ext) : Prop := ∀ i j, i < j → j < L.length → LeE (nth ext0 L i) (nth ext0 L j)

theorem perm_in {L : List Ext} {d : Array Ext} (h : PermIn 0 L.toArray.size L.toArray d) : d.size = L.length ∧ d.toList.Perm L := by
  obtain ⟨h1, _, h3⟩ := h
  have h1' : d.size = L.length := by simpa using h1
  refine ⟨h1', ?_⟩
  have e1 : d.extract 0 L.toArray.size = d := by rw [List.size_toArray, ← h1']; simp
  have e2 : L.toArray.extract 0 L.toArray.size = L.toArray := by simp
  rw [e1, e2] at h3
  simpa using h3

theorem srt_in {n : Nat} {d : Array Ext} (hn : d.size = n) (h : SortedIn (ltOf cfX) 0 n d) : SrtE d.toList := by
  intro i j hij hj
  have hj' : j < d.size := by simpa using hj
  have h1 := h i j (Nat.zero_le _) hij (by omega)
  rw [ltX, decide_eq_false_iff_not] at h1
  have e : ∀ k, k < d.size → nth ext0 d.toList k = d[k]! := fun k hk => by
    rw [← toArr_get (by simpa using hk)]
  rw [e i (by omega), e j hj']
  unfold LeE
  omega
end Go.Proofs
